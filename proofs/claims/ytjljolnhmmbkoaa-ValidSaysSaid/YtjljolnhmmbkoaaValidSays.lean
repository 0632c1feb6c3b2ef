/- What is proved: ValidSays gives true, whatever its arguments and the world. Conditions: none. The frame is after the one that the seat's own tool writes; the walk is by the calculus. -/
import Derived.Test.YtjljolnhmmbkoaaValid30
import Derived.Test.YtjljolnhmmbkoaaWake
import Derived.Test.YtjljolnhmmbkoaaWJ
import Derived.Test.YtjljolnhmmbkoaaWM
import Derived.Test.YtjljolnhmmbkoaaRows
import Derived.WalkKit
import Derived.ProofKit
import Derived.OpenShut
set_option linter.unusedVariables false
set_option linter.unusedSimpArgs false
set_option linter.unusedSectionVars false
namespace Go.Proofs.Ytjljolnhmmbkoaa.validSays
open Go.ChangeShapes Go.WideShapes Go.ChangeAt Go.RowKit
set_option autoImplicit false
set_option linter.unusedVariables false

theorem own : ownKnob Try.prog.godebug = none := by kernel_rfl
theorem laid32 : laidOutB Try.prog = true := by kernel_rfl
theorem reads32 : Try.prog.readableRec 32 = true := by kernel_rfl
theorem row32 : 32 < Try.prog.types.size := Nat.le_of_ble_eq_true (by kernel_rfl)
set_option maxRecDepth 100000 in
theorem walk {H : Type} {enc : TypeId × Value → H} {W : World} {v : Value} {d : DataW H} {ps : List MemPlace} {base : Nat} (hv : Value.okWide Try.prog W .any base 32 v) (h : DataW.Trod enc Try.prog W 0 (fun _ => true) true 32 v d ps) :
    Calls Try.prog 4 #[v] W fun e w' => e = .returned (.bool true) ∧ Eng.Kept W w' := by
  obtain ⟨bs, x, zs, hb, vl, zs', rfl, hrep⟩ := (Eng.lay_struct 6 plain32 Try.underlying32 hv h).done
  obtain ⟨z, p, rfl, hp, hr⟩ := rep_prog (m := 2) hrep
  obtain ⟨r, η', hc, rfl⟩ := says_spec usual1 rfl (Eng.startH Try.prog bs) z p hp hr
  refine (Eng.law_calls (us := [v]) good nat1_ok hc (w := W) (x := x) hb vl).mono fun e w' ⟨u, ρ', he, hu, hk⟩ => ?_
  letI : Eng.Deep := ⟨0, 0⟩
  letI : Eng.Env := Eng.noEnv
  rw [Eng.VR_bool.1 hu] at he
  exact ⟨he, hk⟩

/-! ### The row's step -/
set_option maxRecDepth 100000 in
theorem lifted (os : Os) (started : os.Started) (H : Type) (enc : TypeId × Value → H) :
    ReturnsInHanded {} Try.checked os 4 .any (Rows.validSaysSpec.pre6 enc Try.prog Try.f4 Rows.validSaysRow.domain false) (Rows.validSaysSpec.post enc Try.prog Try.f4 false true false false) := by
  refine returnsInHanded_of_change (C := Try.checked) own started (by kernel_rfl) Try.func4
    (ChangeSpec.witness6 (enc := enc) (C := Try.checked) false ⟨#[], #[.agg #[.slice none 0 0, .slice none 0 0, .slice none 0 0, .slice none 0 0, .slice none 0 0, .slice none 0 0]], []⟩ 8 (by kernel_rfl) (by kernel_rfl) (by kernel_rfl) (by kernel_rfl)) ?_
  intro W base args ds gs before hval0 hW hcnd _
  have hval : ∀ (j : Nat) t v, Try.f4.params[j]? = some t → args[j]? = some v → Value.okWide Try.prog W .any base t v := hval0
  have hW' := hW
  obtain ⟨p, q, hA0, hV, rfl, hfz, hnd⟩ := hW
  have hA : DataW.TrodAll enc Try.prog W 0 (fun _ => true) true Try.f4.params.toList args.toList ds p := hA0
  rw [Try.params4] at hA hval
  obtain ⟨v0, d0, rfl, rfl, h0⟩ := trodAll_one hA
  obtain ⟨rfl, rfl⟩ := trodVars_none hV
  have o0 := hval 0 32 v0 rfl rfl
  clear hA0 hval0
  simp only [List.append_nil] at hW'
  refine (walk o0 h0).mono fun e W' ⟨he, hg⟩ => ?_
  subst he
  letI : Eng.Deep := ⟨0, 0⟩
  letI : Eng.Env := Eng.noEnv
  exact ⟨_, rfl, Eng.post_of_kept (pa := p) (pv := []) hW' (fun _ _ => (trodAll_cons_mk (shut_bool Try.underlying4 _) trodAll_mk0))
    (fun sp hsp => by
      have q := trodAll_cons_mk (Eng.trod_keep (sp := sp) laid32 reads32 row32 h0 hg fun q hq => hsp q hq) trodAll_mk0
      simp only [List.append_nil] at q
      rw [Try.params4]; exact q) (fun _ _ => rfl) (by simp) hg⟩

theorem over : Rows.validSaysRow.holds Try.pinned (OpenSpec.ofChange Rows.validSaysSpec) :=
  OpenClaim.holds_of_wide 4 Try.f4 rfl rfl rfl rfl rfl rfl rfl ⟨rfl, rfl, rfl, rfl, rfl⟩ rfl rfl rfl rfl rfl (by kernel_rfl) Try.func4 (by kernel_rfl)
    (of_decide_eq_true (by kernel_rfl)) (by unfold Func.isWrapper; first | (rw [if_pos (by decide +kernel)]; kernel_rfl) | (rw [if_neg (by decide +kernel)]; exact ⟨rfl, rfl⟩))
    (fun os started H enc _ => lifted os started H enc)

/-- the statement -/
theorem proved : Rows.ValidSaysSaid :=
  over
#print axioms proved
end Go.Proofs.Ytjljolnhmmbkoaa.validSays
