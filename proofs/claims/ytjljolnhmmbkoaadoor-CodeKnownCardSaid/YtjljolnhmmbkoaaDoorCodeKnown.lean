/- What is proved: CodeKnown gives true, whatever the world in which the listed variables read as the program's text lays them; with the tie to that text. Conditions: none. The frame is after the guide's worked example of a tied card; the walk is an evaluation. -/
import Derived.Test.YtjljolnhmmbkoaaDoorRows
import Derived.Test.YtjljolnhmmbkoaaDoorCards
import Derived.Test.YtjljolnhmmbkoaaDoorTie
import Derived.Test.YtjljolnhmmbkoaaDoorJoin
import Derived.WalkKit
import Derived.ProofKit
import Derived.LaidMore
import Derived.OpenShut
import Derived.Stop.Joined
import Derived.SevenTiedAt
namespace Go.Proofs.YtjljolnhmmbkoaaDoor.codeKnown
open Go.ChangeShapes Go.WideShapes Go.ChangeAt Go.WideMaps Go.WideElems Go.RowKit
set_option linter.unusedVariables false

theorem own : ownKnob Tryd.prog.godebug = none := by kernel_rfl
/-! ### The walk: worked out -/
def tab : List (List (List UInt8) × List UInt8 × List UInt8) :=
  [([[97, 100, 100], [49], [50], [51]], [32], [97, 100, 100, 32, 49, 32, 50, 32, 51]), ([[106, 117, 109, 112], [45, 49]], [32], [106, 117, 109, 112, 32, 45, 49])]
theorem tab_ok : joinsOk tab := by
  intro e he
  unfold tab at he
  rcases List.mem_cons.1 he with rfl | he
  · exact ⟨by decide, by decide, by decide, by decide⟩
  · rcases List.mem_cons.1 he with rfl | he
    · exact ⟨by decide, by decide, by decide, by decide⟩
    · cases he
noncomputable def nat0 : Eng.Nats := Eng.natsOf [(40, joinNat tab)]
theorem nat0_ok : Eng.NatsOK Tryd.prog nat0 := Eng.natsOf_cons (joinNat_ok tab_ok) Eng.natsOf_nil
theorem wakes : Eng.runA Tryd.prog nat0 200 8 [] = true := by kernel_rfl
noncomputable def nat : Eng.Nats := Eng.natsOf [(8, Eng.trueNat), (40, joinNat tab)]
theorem nat_ok : Eng.NatsOK Tryd.prog nat := Eng.natsOf_cons (Eng.trueNat_ok (by kernel_rfl) fun w => Eng.runA_calls (us := []) good few nat0_ok Eng.VL.nil wakes w) (Eng.natsOf_cons (joinNat_ok tab_ok) Eng.natsOf_nil)
theorem worked : Eng.okRes ((Eng.callN Tryd.prog nat 200).f 3 [] (h1 Tryd.prog)) = true := by kernel_rfl
theorem walk (w : World) (hw : w.cell? ⟨0, 0, none⟩ = some (.int .u64 1)) : Calls Tryd.prog 3 #[] w fun e w' => e = .returned (.bool true) ∧ Eng.Kept w w' :=
  run1 good (by decide +kernel) few nat_ok worked hw

/-! ### The row's step -/
theorem door_met (os : Os) (args : Array Value) : laidMetH Tryd.prog laidHere ((World.doorLaid Tryd.prog 400 os).forCall (fun _ _ => 0) ⟨#[], args, []⟩).memory :=
  laidMetH_of_parts3 (fuel := 8) (laidMet_of_run' 8 (by kernel_rfl) (by kernel_rfl)) (by kernel_rfl) (by kernel_rfl)
set_option maxRecDepth 100000 in
theorem lifted (os : Os) (started : os.Started) (H : Type) (enc : TypeId × Value → H) :
    ReturnsInHanded {} Tryd.checked os 3 .any (fun w args => (Rows.codeKnownSpec.pre enc Tryd.prog Tryd.f3 [] false w args ∧ laidMetH Tryd.prog laidHere w) ∧ sizedMet enc Tryd.prog Tryd.f3 (OpenSpec.ofChange Rows.codeKnownSpec) false w args)
      (Rows.codeKnownSpec.post enc Tryd.prog Tryd.f3 false true false false) := by
  refine returnsInHanded_of_change_and (C := Tryd.checked) (X := fun w _ => laidMetH Tryd.prog laidHere w) (fun _ _ _ hh h => h.of_heap hh) own started (by kernel_rfl) Tryd.func3
    (ChangeSpec.witness_shaped (enc := enc) (C := Tryd.checked) (os := os) (X := fun w _ => laidMetH Tryd.prog laidHere w) false (World.doorLaid Tryd.prog 400 os) #[] 8 rfl (World.shaped_of_RefB (by kernel_rfl) (by kernel_rfl)) (by kernel_rfl) (by kernel_rfl) (by kernel_rfl) (door_met os _)) ?_
  intro W base args ds gs before hval0 hW _ _ hL _
  have hW' := hW
  obtain ⟨p, q, hA0, hV, rfl, hfz, hnd⟩ := hW
  have hA : DataW.TrodAll enc Tryd.prog W 0 (fun _ => true) true Tryd.f3.params.toList args.toList ds p := hA0
  rw [Tryd.params3] at hA
  obtain ⟨rfl, rfl, rfl⟩ := trodAll_none hA
  obtain ⟨rfl, rfl⟩ := trodVars_none hV
  clear hA0 hval0
  simp only [List.append_nil] at hW'
  refine (walk W (table hL)).mono fun e W' ⟨he, hg⟩ => ?_
  subst he
  exact ⟨_, rfl, Eng.post_of_kept (pa := []) (pv := []) hW' (fun _ _ => (trodAll_cons_mk (shut_bool Tryd.underlying4 _) trodAll_mk0)) (fun sp _ => rfl) (fun _ _ => rfl) rfl hg⟩

theorem over : Rows.CodeKnownSaid :=
  OpenClaim.holds_of_wide 3 Tryd.f3 rfl rfl rfl rfl rfl rfl rfl ⟨rfl, rfl, rfl, rfl, rfl⟩ rfl rfl rfl rfl rfl (by kernel_rfl) Tryd.func3 (by kernel_rfl)
    (of_decide_eq_true (by kernel_rfl)) (by unfold Func.isWrapper; first | (rw [if_pos (by decide +kernel)]; kernel_rfl) | (rw [if_neg (by decide +kernel)]; exact ⟨rfl, rfl⟩))
    (fun os started H enc _ => lifted os started H enc)

/-- the statement -/
theorem proved : Rows.CodeKnownCardSaid :=
  Claim7.holds_tied_plain_at .later [] [.data, .data, .data] true (true, "40c5685bb1b2d6c5cfdf8f96d8a7e84e6dd0c4efd46e18657bdac27bdbdd2772") false
    over (fun _ h => by cases h) (by kernel_rfl) (fun _ h => by cases h) codeKnown_row_tie rfl ⟨rfl, rfl⟩ (by kernel_rfl) rfl
    (fun f fn hf hfn => by
      obtain rfl : f = 3 := Option.some.inj ((show Tryd.prog.funcNamed "escapement/escapementlaw14.CodeKnown" = some 3 by kernel_rfl).symm.trans hf) |>.symm
      obtain rfl : fn = Tryd.f3 := (Option.some.inj (Tryd.func3.symm.trans hfn)).symm
      exact ⟨by kernel_rfl, fun j t ht => by
        rw [Tryd.params3] at ht
        simp at ht⟩)
    (by kernel_rfl)
end Go.Proofs.YtjljolnhmmbkoaaDoor.codeKnown
