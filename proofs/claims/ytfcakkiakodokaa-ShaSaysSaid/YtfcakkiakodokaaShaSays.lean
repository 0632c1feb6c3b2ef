/- What is proved: ShaSays gives true, whatever its arguments and the world. Conditions: none. The frame is after the one that the seat's own tool writes; the walk is by the calculus. -/
import Derived.Test.YtfcakkiakodokaaSha12
import Derived.Test.YtfcakkiakodokaaSha16
import Derived.Test.YtfcakkiakodokaaWJ
import Derived.Test.YtfcakkiakodokaaWK
import Derived.Test.YtfcakkiakodokaaRows
import Derived.WalkKit
import Derived.ProofKit
import Derived.OpenShut
set_option linter.unusedVariables false
set_option linter.unusedSimpArgs false
set_option linter.unusedSectionVars false
namespace Go.Proofs.Ytfcakkiakodokaa.shaSays
open Go.ChangeShapes Go.WideShapes Go.ChangeAt Go.RowKit
set_option autoImplicit false
set_option linter.unusedVariables false

theorem own : ownKnob Try.prog.godebug = none := by kernel_rfl
theorem cells5 : Try.prog.cellsOf 5 = 1 := by kernel_rfl
theorem cells26 : Try.prog.cellsOf 26 = 1 := by kernel_rfl
theorem laid26 : laidOutB Try.prog = true := by kernel_rfl
theorem reads26 : Try.prog.readableRec 26 = true := by kernel_rfl
theorem row26 : 26 < Try.prog.types.size := Nat.le_of_ble_eq_true (by kernel_rfl)
theorem walk {W : World} {u : Value} {l : List Nat} (h : Eng.ArgV W u l) (hl : l.length ≤ 9223372036854775807) :
    Calls Try.prog 4 #[u] W fun e w' => e = .returned (.bool true) ∧ Eng.Kept W w' := by
  obtain ⟨bs, xs, L, k⟩ := Eng.arg_lay Try.prog h
  obtain ⟨z, v, a⟩ := k [] [] [] [] rfl
  simp only [List.nil_append, List.append_nil] at v a
  obtain ⟨r, η', hc, rfl⟩ := says_spec ctx2 rfl rfl (Eng.startH Try.prog bs) z l a hl
  refine (Eng.law_calls (us := [u]) good nat2_ok hc (w := W) (x := fun i => xs.getD i (0, 0, 0)) (fun i l hi => L.br i l hi _) ?_).mono fun e w' ⟨u, ρ', he, hu, hk⟩ => ?_
  · letI : Eng.Deep := ⟨0, 0⟩
    letI : Eng.Env := Eng.noEnv
    exact Eng.VL.cons v Eng.VL.nil
  · letI : Eng.Deep := ⟨0, 0⟩
    letI : Eng.Env := Eng.noEnv
    rw [Eng.VR_bool.1 hu] at he
    exact ⟨he, hk⟩

/-! ### The row's step -/
set_option maxRecDepth 100000 in
theorem lifted (os : Os) (started : os.Started) (H : Type) (enc : TypeId × Value → H) :
    ReturnsInHanded {} Try.checked os 4 .any (Rows.shaSaysSpec.pre6 enc Try.prog Try.f4 Rows.shaSaysRow.domain false) (Rows.shaSaysSpec.post enc Try.prog Try.f4 false true false false) := by
  refine returnsInHanded_of_change (C := Try.checked) own started (by kernel_rfl) Try.func4
    (ChangeSpec.witness6 (enc := enc) (C := Try.checked) false ⟨#[], #[.slice none 0 0], []⟩ 8 (by kernel_rfl) (by kernel_rfl) (by kernel_rfl) (by kernel_rfl)) ?_
  intro W base args ds gs before hval0 hW hcnd _
  have hval : ∀ (j : Nat) t v, Try.f4.params[j]? = some t → args[j]? = some v → Value.okWide Try.prog W .any base t v := hval0
  have hW' := hW
  obtain ⟨p, q, hA0, hV, rfl, hfz, hnd⟩ := hW
  have hA : DataW.TrodAll enc Try.prog W 0 (fun _ => true) true Try.f4.params.toList args.toList ds p := hA0
  rw [Try.params4] at hA hval
  obtain ⟨v0, d0, rfl, rfl, h0⟩ := trodAll_one hA
  obtain ⟨rfl, rfl⟩ := trodVars_none hV
  obtain ⟨l0, a0, n0, _⟩ := Eng.open_b Try.underlying26 Try.underlying5 cells5 (hval 0 26 v0 rfl rfl) h0
  clear hA0 hval0
  simp only [List.append_nil] at hW'
  refine (walk a0 n0).mono fun e W' ⟨he, hg⟩ => ?_
  subst he
  letI : Eng.Deep := ⟨0, 0⟩
  letI : Eng.Env := Eng.noEnv
  exact ⟨_, rfl, Eng.post_of_kept (pa := p) (pv := []) hW' (fun _ _ => (trodAll_cons_mk (shut_bool Try.underlying4 _) trodAll_mk0))
    (fun sp hsp => by
      have q := trodAll_cons_mk (Eng.trod_keep (sp := sp) laid26 reads26 row26 h0 hg fun q hq => hsp q hq) trodAll_mk0
      simp only [List.append_nil] at q
      rw [Try.params4]; exact q) (fun _ _ => rfl) (by simp) hg⟩

theorem over : Rows.shaSaysRow.holds Try.pinned (OpenSpec.ofChange Rows.shaSaysSpec) :=
  OpenClaim.holds_of_wide 4 Try.f4 rfl rfl rfl rfl rfl rfl rfl ⟨rfl, rfl, rfl, rfl, rfl⟩ rfl rfl rfl rfl rfl (by kernel_rfl) Try.func4 (by kernel_rfl)
    (of_decide_eq_true (by kernel_rfl)) (by unfold Func.isWrapper; first | (rw [if_pos (by decide +kernel)]; kernel_rfl) | (rw [if_neg (by decide +kernel)]; exact ⟨rfl, rfl⟩))
    (fun os started H enc _ => lifted os started H enc)

/-- the statement -/
theorem proved : Rows.ShaSaysSaid :=
  over
#print axioms proved
end Go.Proofs.Ytfcakkiakodokaa.shaSays
