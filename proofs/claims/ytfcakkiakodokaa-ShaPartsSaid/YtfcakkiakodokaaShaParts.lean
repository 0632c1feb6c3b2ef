/- What is proved: ShaParts gives true, whatever its arguments and the world. Conditions: none. The frame is after the one that the seat's own tool writes; the walk is by the calculus. -/
import Derived.Test.YtfcakkiakodokaaSha7
import Derived.Test.YtfcakkiakodokaaSha9
import Derived.Test.YtfcakkiakodokaaWJ
import Derived.Test.YtfcakkiakodokaaWK
import Derived.Test.YtfcakkiakodokaaRows
import Derived.WalkKit
import Derived.ProofKit
import Derived.OpenShut
set_option linter.unusedVariables false
set_option linter.unusedSimpArgs false
set_option linter.unusedSectionVars false
namespace Go.Proofs.Ytfcakkiakodokaa.shaParts
open Go.ChangeShapes Go.WideShapes Go.ChangeAt Go.RowKit
set_option autoImplicit false
set_option linter.unusedVariables false

theorem own : ownKnob Try.prog.godebug = none := by kernel_rfl
theorem cells5 : Try.prog.cellsOf 5 = 1 := by kernel_rfl
theorem cells26 : Try.prog.cellsOf 26 = 1 := by kernel_rfl
theorem laid28 : laidOutB Try.prog = true := by kernel_rfl
theorem reads28 : Try.prog.readableRec 28 = true := by kernel_rfl
theorem row28 : 28 < Try.prog.types.size := Nat.le_of_ble_eq_true (by kernel_rfl)
theorem walk {W : World} {u : Value} {ls : List (List Nat)} {n : Int} (h : Eng.ArgVR W u ls) (hl : ls.length ≤ 9223372036854775807) (hll : ∀ l ∈ ls, l.length ≤ 9223372036854775807) (hn : (Lit.int .i64 n).wf = true) :
    Calls Try.prog 5 #[u, .int .i64 n] W fun e w' => e = .returned (.bool true) ∧ Eng.Kept W w' := by
  obtain ⟨bs, x, z, hb, v, a⟩ := Eng.rows_arg Try.prog h
  have h0 := (@Eng.wf64 ⟨0, 0⟩ Eng.noEnv _ hn).1
  obtain ⟨r, η', hc, rfl⟩ := parts_spec ctx rfl rfl (Eng.startH Try.prog bs) z ls (Eng.res .i64 n) a hl hll
  refine (Eng.law_calls (us := [u, .int .i64 n]) good nat_ok hc (w := W) (x := x) hb ?_).mono fun e w' ⟨u, ρ', he, hu, hk⟩ => ?_
  · letI : Eng.Deep := ⟨0, 0⟩
    letI : Eng.Env := Eng.noEnv
    exact Eng.VL.cons v (Eng.VL.cons (Eng.arg_int h0) Eng.VL.nil)
  · letI : Eng.Deep := ⟨0, 0⟩
    letI : Eng.Env := Eng.noEnv
    rw [Eng.VR_bool.1 hu] at he
    exact ⟨he, hk⟩

/-! ### The row's step -/
set_option maxRecDepth 100000 in
theorem lifted (os : Os) (started : os.Started) (H : Type) (enc : TypeId × Value → H) :
    ReturnsInHanded {} Try.checked os 5 .any (Rows.shaPartsSpec.pre6 enc Try.prog Try.f5 Rows.shaPartsRow.domain false) (Rows.shaPartsSpec.post enc Try.prog Try.f5 false true false false) := by
  refine returnsInHanded_of_change (C := Try.checked) own started (by kernel_rfl) Try.func5
    (ChangeSpec.witness6 (enc := enc) (C := Try.checked) false ⟨#[], #[.slice none 0 0, .int .i64 0], []⟩ 8 (by kernel_rfl) (by kernel_rfl) (by kernel_rfl) (by kernel_rfl)) ?_
  intro W base args ds gs before hval0 hW hcnd _
  have hval : ∀ (j : Nat) t v, Try.f5.params[j]? = some t → args[j]? = some v → Value.okWide Try.prog W .any base t v := hval0
  have hW' := hW
  obtain ⟨p, q, hA0, hV, rfl, hfz, hnd⟩ := hW
  have hA : DataW.TrodAll enc Try.prog W 0 (fun _ => true) true Try.f5.params.toList args.toList ds p := hA0
  rw [Try.params5] at hA hval
  obtain ⟨v0, v1, d0, d1, p0, p1, rfl, rfl, rfl, h0, h1⟩ := trodAll_two hA
  obtain ⟨rfl, rfl⟩ := trodVars_none hV
  obtain ⟨ls, a0, n0, n1⟩ := Eng.open_rows Try.underlying28 Try.underlying26 Try.underlying5 cells26 cells5 (hval 0 28 v0 rfl rfl) h0
  obtain ⟨k1, rfl, rfl, rfl, w1⟩ := open_int Try.underlying3 (hval 1 3 v1 rfl rfl) h1
  clear hA0 hval0
  simp only [List.append_nil] at hW'
  refine (walk a0 n0 n1 w1).mono fun e W' ⟨he, hg⟩ => ?_
  subst he
  letI : Eng.Deep := ⟨0, 0⟩
  letI : Eng.Env := Eng.noEnv
  exact ⟨_, rfl, Eng.post_of_kept (pa := p0) (pv := []) hW' (fun _ _ => (trodAll_cons_mk (shut_bool Try.underlying4 _) trodAll_mk0))
    (fun sp hsp => by
      have q := trodAll_cons_mk (Eng.trod_keep (sp := sp) laid28 reads28 row28 h0 hg fun q hq => hsp q hq) (trodAll_cons_mk (shut_int Try.underlying3 w1) trodAll_mk0)
      simp only [List.append_nil] at q
      rw [Try.params5]; exact q) (fun _ _ => rfl) (by simp) hg⟩

theorem over : Rows.shaPartsRow.holds Try.pinned (OpenSpec.ofChange Rows.shaPartsSpec) :=
  OpenClaim.holds_of_wide 5 Try.f5 rfl rfl rfl rfl rfl rfl rfl ⟨rfl, rfl, rfl, rfl, rfl⟩ rfl rfl rfl rfl rfl (by kernel_rfl) Try.func5 (by kernel_rfl)
    (of_decide_eq_true (by kernel_rfl)) (by unfold Func.isWrapper; first | (rw [if_pos (by decide +kernel)]; kernel_rfl) | (rw [if_neg (by decide +kernel)]; exact ⟨rfl, rfl⟩))
    (fun os started H enc _ => lifted os started H enc)

/-- the statement -/
theorem proved : Rows.ShaPartsSaid :=
  over
#print axioms proved
end Go.Proofs.Ytfcakkiakodokaa.shaParts
