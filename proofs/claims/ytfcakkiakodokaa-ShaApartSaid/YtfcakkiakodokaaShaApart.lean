/- What is proved: ShaApart gives true, whatever its arguments and the world. Conditions: none. The frame is after the one that the seat's own tool writes; the walk is by the calculus. -/
import Derived.Test.YtfcakkiakodokaaSha12
import Derived.Test.YtfcakkiakodokaaSha13
import Derived.Test.YtfcakkiakodokaaWJ
import Derived.Test.YtfcakkiakodokaaWK
import Derived.Test.YtfcakkiakodokaaRows
import Derived.WalkKit
import Derived.ProofKit
import Derived.OpenShut
set_option linter.unusedVariables false
set_option linter.unusedSimpArgs false
set_option linter.unusedSectionVars false
namespace Go.Proofs.Ytfcakkiakodokaa.shaApart
open Go.ChangeShapes Go.WideShapes Go.ChangeAt Go.RowKit
set_option autoImplicit false
set_option linter.unusedVariables false

theorem own : ownKnob Try.prog.godebug = none := by kernel_rfl
theorem cells5 : Try.prog.cellsOf 5 = 1 := by kernel_rfl
theorem cells26 : Try.prog.cellsOf 26 = 1 := by kernel_rfl
theorem laid26 : laidOutB Try.prog = true := by kernel_rfl
theorem reads26 : Try.prog.readableRec 26 = true := by kernel_rfl
theorem row26 : 26 < Try.prog.types.size := Nat.le_of_ble_eq_true (by kernel_rfl)
theorem walk {W : World} {u : Value} {l : List Nat} {n : Int} (h : Eng.ArgV W u l) (hl : l.length ≤ 9223372036854775807) (hn : (Lit.int .i64 n).wf = true) :
    Calls Try.prog 6 #[u, .int .i64 n] W fun e w' => e = .returned (.bool true) ∧ Eng.Kept W w' := by
  obtain ⟨bs, xs, L, k⟩ := Eng.arg_lay Try.prog h
  obtain ⟨z, v, a⟩ := k [] [] [] [] rfl
  simp only [List.nil_append, List.append_nil] at v a
  have h0 := (@Eng.wf64 ⟨0, 0⟩ Eng.noEnv _ hn).1
  have hlt : Eng.res .i64 n < 18446744073709551616 := @Eng.res_lt ⟨0, 0⟩ Eng.noEnv .i64 n
  obtain ⟨r, η', hc, rfl⟩ := apart_spec ctx2 rfl rfl (Eng.startH Try.prog bs) z l (Eng.res .i64 n) a hl hlt
  refine (Eng.law_calls (us := [u, .int .i64 n]) good nat2_ok hc (w := W) (x := fun i => xs.getD i (0, 0, 0)) (fun i l hi => L.br i l hi _) ?_).mono fun e w' ⟨u, ρ', he, hu, hk⟩ => ?_
  · letI : Eng.Deep := ⟨0, 0⟩
    letI : Eng.Env := Eng.noEnv
    exact Eng.VL.cons v (Eng.VL.cons (Eng.arg_int h0) Eng.VL.nil)
  · letI : Eng.Deep := ⟨0, 0⟩
    letI : Eng.Env := Eng.noEnv
    rw [Eng.VR_bool.1 hu] at he
    exact ⟨he, hk⟩

/-! ### The row's step -/
set_option maxRecDepth 100000 in
theorem lifted (os : Os) (started : os.Started) (H : Type) (enc : TypeId × Value → H) :
    ReturnsInHanded {} Try.checked os 6 .any (Rows.shaApartSpec.pre6 enc Try.prog Try.f6 Rows.shaApartRow.domain false) (Rows.shaApartSpec.post enc Try.prog Try.f6 false true false false) := by
  refine returnsInHanded_of_change (C := Try.checked) own started (by kernel_rfl) Try.func6
    (ChangeSpec.witness6 (enc := enc) (C := Try.checked) false ⟨#[], #[.slice none 0 0, .int .i64 0], []⟩ 8 (by kernel_rfl) (by kernel_rfl) (by kernel_rfl) (by kernel_rfl)) ?_
  intro W base args ds gs before hval0 hW hcnd _
  have hval : ∀ (j : Nat) t v, Try.f6.params[j]? = some t → args[j]? = some v → Value.okWide Try.prog W .any base t v := hval0
  have hW' := hW
  obtain ⟨p, q, hA0, hV, rfl, hfz, hnd⟩ := hW
  have hA : DataW.TrodAll enc Try.prog W 0 (fun _ => true) true Try.f6.params.toList args.toList ds p := hA0
  rw [Try.params6] at hA hval
  obtain ⟨v0, v1, d0, d1, p0, p1, rfl, rfl, rfl, h0, h1⟩ := trodAll_two hA
  obtain ⟨rfl, rfl⟩ := trodVars_none hV
  obtain ⟨l0, a0, n0, _⟩ := Eng.open_b Try.underlying26 Try.underlying5 cells5 (hval 0 26 v0 rfl rfl) h0
  obtain ⟨k1, rfl, rfl, rfl, w1⟩ := open_int Try.underlying3 (hval 1 3 v1 rfl rfl) h1
  clear hA0 hval0
  simp only [List.append_nil] at hW'
  refine (walk a0 n0 w1).mono fun e W' ⟨he, hg⟩ => ?_
  subst he
  letI : Eng.Deep := ⟨0, 0⟩
  letI : Eng.Env := Eng.noEnv
  exact ⟨_, rfl, Eng.post_of_kept (pa := p0) (pv := []) hW' (fun _ _ => (trodAll_cons_mk (shut_bool Try.underlying4 _) trodAll_mk0))
    (fun sp hsp => by
      have q := trodAll_cons_mk (Eng.trod_keep (sp := sp) laid26 reads26 row26 h0 hg fun q hq => hsp q hq) (trodAll_cons_mk (shut_int Try.underlying3 w1) trodAll_mk0)
      simp only [List.append_nil] at q
      rw [Try.params6]; exact q) (fun _ _ => rfl) (by simp) hg⟩

theorem over : Rows.shaApartRow.holds Try.pinned (OpenSpec.ofChange Rows.shaApartSpec) :=
  OpenClaim.holds_of_wide 6 Try.f6 rfl rfl rfl rfl rfl rfl rfl ⟨rfl, rfl, rfl, rfl, rfl⟩ rfl rfl rfl rfl rfl (by kernel_rfl) Try.func6 (by kernel_rfl)
    (of_decide_eq_true (by kernel_rfl)) (by unfold Func.isWrapper; first | (rw [if_pos (by decide +kernel)]; kernel_rfl) | (rw [if_neg (by decide +kernel)]; exact ⟨rfl, rfl⟩))
    (fun os started H enc _ => lifted os started H enc)

/-- the statement -/
theorem proved : Rows.ShaApartSaid :=
  over
#print axioms proved
end Go.Proofs.Ytfcakkiakodokaa.shaApart
