/- What is proved: TypIfs gives true, whatever its arguments and the world. Conditions: none. The frame was written by the seat's own tool; the walk is an evaluation of each case. -/
import Derived.Test.YtpjmiopplfmcfaaRows
import Derived.Test.YtpjmiopplfmcfaaEngF
import Derived.WalkKit
import Derived.ProofKit
import Derived.OpenShut
namespace Go.Proofs.Ytpjmiopplfmcfaa.typIfs
open Go.ChangeShapes Go.WideShapes Go.ChangeAt Go.RowKit
set_option linter.unusedVariables false      -- a walk need not use every 'w<i>' (that an integer argument fits its kind)

theorem own : ownKnob Try.prog.godebug = none := by kernel_rfl

/-! ### The walk: worked out, case by case -/
theorem good : Eng.progOk Try.prog = true := by kernel_rfl
theorem few : Try.prog.globals.size ≤ Eng.mostBlocks := of_decide_eq_true (by kernel_rfl)
theorem wakes : Eng.runB Try.prog 200 37 = true := by kernel_rfl
noncomputable def nat : Eng.Nats := Eng.truths [37]
theorem nat_ok : Eng.NatsOK Try.prog nat := Eng.truths_ok fun f hf => by
  have e : f = 37 := by simpa using hf
  subst e
  exact ⟨by kernel_rfl, fun w => Eng.runB_calls good few wakes w⟩
noncomputable def each (x y z u : Eng.AV) : Bool := Eng.runA Try.prog nat 200 15 [x, y, z, u]
theorem part0 : Eng.lall (fun y => Eng.lall (fun z => Eng.lall (fun u => each (.bool false) y z u) Eng.domB) Eng.domB) Eng.domB = true := by kernel_rfl
theorem part1 : Eng.lall (fun y => Eng.lall (fun z => Eng.lall (fun u => each (.bool true) y z u) Eng.domB) Eng.domB) Eng.domB = true := by kernel_rfl
theorem cases : ∀ x ∈ ([.bool false, .bool true] : List Eng.AV), Eng.lall (fun y => Eng.lall (fun z => Eng.lall (fun u => each x y z u) Eng.domB) Eng.domB) Eng.domB = true := (Eng.all_cons part0 (Eng.all_cons part1 Eng.all_nil))
theorem walk (a0 : Bool) (a1 : Bool) (a2 : Bool) (a3 : Bool) (w : World) :
    Calls Try.prog 15 #[.bool a0, .bool a1, .bool a2, .bool a3] w fun e w' => e = .returned (.bool true) ∧ Eng.Kept w w' := by
  obtain ⟨x, m0, v0⟩ := Eng.domB_ok (ρ := Eng.ren0 Try.prog) a0
  obtain ⟨y, m1, v1⟩ := Eng.domB_ok (ρ := Eng.ren0 Try.prog) a1
  obtain ⟨z, m2, v2⟩ := Eng.domB_ok (ρ := Eng.ren0 Try.prog) a2
  obtain ⟨u, m3, v3⟩ := Eng.domB_ok (ρ := Eng.ren0 Try.prog) a3
  exact Eng.runA_calls (us := [.bool a0, .bool a1, .bool a2, .bool a3]) good few nat_ok (Eng.VL.cons v0 (Eng.VL.cons v1 (Eng.VL.cons v2 (Eng.VL.cons v3 Eng.VL.nil)))) (Eng.lall_mem (Eng.lall_mem (Eng.lall_mem (cases x m0) m1) m2) m3) w

/-! ### The row's step -/
set_option maxRecDepth 100000 in
theorem lifted (os : Os) (started : os.Started) (H : Type) (enc : TypeId × Value → H) :
    ReturnsInHanded {} Try.checked os 15 .any (Rows.typIfsSpec.pre6 enc Try.prog Try.f15 Rows.typIfsRow.domain false) (Rows.typIfsSpec.post enc Try.prog Try.f15 false true false false) := by
  refine returnsInHanded_of_change (C := Try.checked) own started (by kernel_rfl) Try.func15
    (ChangeSpec.witness6 (enc := enc) (C := Try.checked) false ⟨#[], #[.bool false, .bool false, .bool false, .bool false], []⟩ 8 (by kernel_rfl) (by kernel_rfl) (by kernel_rfl) (by kernel_rfl)) ?_
  intro W base args ds gs before hval0 hW hcnd _
  have hval : ∀ (j : Nat) t v, Try.f15.params[j]? = some t → args[j]? = some v → Value.okWide Try.prog W .any base t v := hval0
  have hW' := hW
  obtain ⟨p, q, hA0, hV, rfl, hfz, hnd⟩ := hW
  have hA : DataW.TrodAll enc Try.prog W 0 (fun _ => true) true Try.f15.params.toList args.toList ds p := hA0
  rw [Try.params15] at hA hval
  obtain ⟨v0, vs0, d0, ds0, p0, q0, hargs, rfl, rfl, h0, r0⟩ := trodAll_cons hA
  obtain ⟨v1, vs1, d1, ds1, p1, q1, rfl, rfl, rfl, h1, r1⟩ := trodAll_cons r0
  obtain ⟨v2, vs2, d2, ds2, p2, q2, rfl, rfl, rfl, h2, r2⟩ := trodAll_cons r1
  obtain ⟨v3, vs3, d3, ds3, p3, q3, rfl, rfl, rfl, h3, r3⟩ := trodAll_cons r2
  obtain ⟨rfl, rfl, rfl⟩ := trodAll_nil r3
  obtain rfl : args = #[v0, v1, v2, v3] := by cases args; simp_all
  obtain ⟨rfl, rfl⟩ := trodVars_none hV
  obtain ⟨a0, rfl, rfl, rfl⟩ := open_bool Try.underlying4 (hval 0 4 v0 rfl rfl) h0
  obtain ⟨a1, rfl, rfl, rfl⟩ := open_bool Try.underlying4 (hval 1 4 v1 rfl rfl) h1
  obtain ⟨a2, rfl, rfl, rfl⟩ := open_bool Try.underlying4 (hval 2 4 v2 rfl rfl) h2
  obtain ⟨a3, rfl, rfl, rfl⟩ := open_bool Try.underlying4 (hval 3 4 v3 rfl rfl) h3
  clear hA0 hval0
  simp only [List.append_nil] at hW'
  refine (walk a0 a1 a2 a3 W).mono fun e W' ⟨he, hg⟩ => ?_
  subst he
  exact ⟨_, rfl, Eng.post_of_kept (pa := []) (pv := []) hW' (fun _ _ => (trodAll_cons_mk (shut_bool Try.underlying4 _) trodAll_mk0)) (fun sp _ => (trodAll_cons_mk (shut_bool Try.underlying4 _) (trodAll_cons_mk (shut_bool Try.underlying4 _) (trodAll_cons_mk (shut_bool Try.underlying4 _) (trodAll_cons_mk (shut_bool Try.underlying4 _) trodAll_mk0))))) (fun _ _ => rfl) rfl hg⟩

theorem over : Rows.typIfsRow.holds Try.pinned (OpenSpec.ofChange Rows.typIfsSpec) :=
  OpenClaim.holds_of_wide 15 Try.f15 rfl rfl rfl rfl rfl rfl rfl ⟨rfl, rfl, rfl, rfl, rfl⟩ rfl rfl rfl rfl rfl (by kernel_rfl) Try.func15 (by kernel_rfl)
    (of_decide_eq_true (by kernel_rfl)) (by unfold Func.isWrapper; first | (rw [if_pos (by decide +kernel)]; kernel_rfl) | (rw [if_neg (by decide +kernel)]; exact ⟨rfl, rfl⟩))
    (fun os started H enc _ => lifted os started H enc)

/-- the statement -/
theorem proved : Rows.TypIfsSaid :=
  over
#print axioms proved
end Go.Proofs.Ytpjmiopplfmcfaa.typIfs
