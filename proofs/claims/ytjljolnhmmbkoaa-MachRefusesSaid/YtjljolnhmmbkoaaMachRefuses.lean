/- What is proved: MachRefuses gives true, whatever its arguments and the world. Conditions: as each theorem says. -/
import Derived.Test.YtjljolnhmmbkoaaMachRef
import Derived.Test.YtjljolnhmmbkoaaWak2
import Derived.Test.YtjljolnhmmbkoaaMacG
import Derived.Test.YtjljolnhmmbkoaaWJ
import Derived.Test.YtjljolnhmmbkoaaRows
import Derived.WalkKit
import Derived.ProofKit
import Derived.OpenShut
set_option linter.unusedVariables false
set_option linter.unusedSimpArgs false
set_option linter.unusedSectionVars false
namespace Go.Proofs.Ytjljolnhmmbkoaa.machRefuses
open Go.ChangeShapes Go.WideShapes Go.ChangeAt Go.RowKit
set_option autoImplicit false
set_option linter.unusedVariables false

theorem own : ownKnob Try.prog.godebug = none := by kernel_rfl
theorem laid : laidOutB Try.prog = true := by kernel_rfl
theorem reads32 : Try.prog.readableRec 32 = true := by kernel_rfl
theorem row32 : 32 < Try.prog.types.size := Nat.le_of_ble_eq_true (by kernel_rfl)
theorem reads48 : Try.prog.readableRec 48 = true := by kernel_rfl
theorem row48 : 48 < Try.prog.types.size := Nat.le_of_ble_eq_true (by kernel_rfl)
theorem reads55 : Try.prog.readableRec 55 = true := by kernel_rfl
theorem row55 : 55 < Try.prog.types.size := Nat.le_of_ble_eq_true (by kernel_rfl)
set_option maxRecDepth 100000 in
theorem walk {H : Type} {enc : TypeId × Value → H} {W : World} {base : Nat} {v0 : Value} {d0 : DataW H} {ps0 : List MemPlace} {v1 : Value} {d1 : DataW H} {ps1 : List MemPlace} {v2 : Value} {d2 : DataW H} {ps2 : List MemPlace} (o0 : Value.okWide Try.prog W .any base 32 v0) (h0 : DataW.Trod enc Try.prog W 0 (fun _ => true) true 32 v0 d0 ps0) (o1 : Value.okWide Try.prog W .any base 55 v1) (h1 : DataW.Trod enc Try.prog W 0 (fun _ => true) true 55 v1 d1 ps1) (o2 : Value.okWide Try.prog W .any base 48 v2) (h2 : DataW.Trod enc Try.prog W 0 (fun _ => true) true 48 v2 d2 ps2) :
    Calls Try.prog 13 #[v0, v1, v2] W fun e w' => e = .returned (.bool true) ∧ Eng.Kept W w' := by
  obtain ⟨bs, x, zs, hb, vl, ⟨c0, e0, rfl, _, _, ⟨zs0, rfl, rep0⟩, ⟨c1, e1, rfl, _, _, rep1, rep2⟩⟩⟩ := Eng.LayC.done ((Eng.lay_struct 6 plain32 Try.underlying32 o0 h0).app ((Eng.lay_slice 6 plain55 Try.underlying55 o1 h1).app (Eng.lay_slice 6 plain48 Try.underlying48 o2 h2)))
  obtain ⟨z0, p0, rfl, hp0, hr0⟩ := rep_prog (m := 2) rep0
  obtain ⟨y1, l1, rfl, hy1, hl1⟩ := rep_rows (m := 3) rep1
  obtain ⟨y2, l2, rfl, hy2, hl2, ht2⟩ := rep_ints (m := 4) Try.underlying48 Try.underlying2 cells2 rep2
  obtain ⟨r, η', hc, rfl⟩ := refuses_spec usual4 wakes4 dig4 (Eng.startH Try.prog bs) z0 p0 hp0 hr0 y1 l1 hy1 hl1 y2 l2 hy2 hl2 ht2
  refine (Eng.law_calls (us := [v0, v1, v2]) good nat4_ok hc (w := W) (x := x) hb vl).mono fun e w' ⟨u, ρ', he, hu, hk⟩ => ?_
  letI : Eng.Deep := ⟨0, 0⟩
  letI : Eng.Env := Eng.noEnv
  rw [Eng.VR_bool.1 hu] at he
  exact ⟨he, hk⟩

/-! ### The row's step -/
set_option maxRecDepth 100000 in
theorem lifted (os : Os) (started : os.Started) (H : Type) (enc : TypeId × Value → H) :
    ReturnsInHanded {} Try.checked os 13 .any (Rows.machRefusesSpec.pre6 enc Try.prog Try.f13 Rows.machRefusesRow.domain false) (Rows.machRefusesSpec.post enc Try.prog Try.f13 false true false false) := by
  refine returnsInHanded_of_change (C := Try.checked) own started (by kernel_rfl) Try.func13
    (ChangeSpec.witness6 (enc := enc) (C := Try.checked) false ⟨#[], #[.agg #[.slice none 0 0, .slice none 0 0, .slice none 0 0, .slice none 0 0, .slice none 0 0, .slice none 0 0], .slice none 0 0, .slice none 0 0], []⟩ 8 (by kernel_rfl) (by kernel_rfl) (by kernel_rfl) (by kernel_rfl)) ?_
  intro W base args ds gs before hval0 hW hcnd _
  have hval : ∀ (j : Nat) t v, Try.f13.params[j]? = some t → args[j]? = some v → Value.okWide Try.prog W .any base t v := hval0
  have hW' := hW
  obtain ⟨p, q, hA0, hV, rfl, hfz, hnd⟩ := hW
  have hA : DataW.TrodAll enc Try.prog W 0 (fun _ => true) true Try.f13.params.toList args.toList ds p := hA0
  rw [Try.params13] at hA hval
  obtain ⟨v0, vs0, d0, ds0, p0, q0, hargs, rfl, rfl, h0, r0⟩ := trodAll_cons hA
  obtain ⟨v1, vs1, d1, ds1, p1, q1, rfl, rfl, rfl, h1, r1⟩ := trodAll_cons r0
  obtain ⟨v2, vs2, d2, ds2, p2, q2, rfl, rfl, rfl, h2, r2⟩ := trodAll_cons r1
  obtain ⟨rfl, rfl, rfl⟩ := trodAll_nil r2
  obtain rfl : args = #[v0, v1, v2] := by cases args; simp_all
  obtain ⟨rfl, rfl⟩ := trodVars_none hV
  have o0 := hval 0 32 v0 rfl rfl
  have o1 := hval 1 55 v1 rfl rfl
  have o2 := hval 2 48 v2 rfl rfl
  clear hA0 hval0
  simp only [List.append_nil] at hW'
  refine (walk o0 h0 o1 h1 o2 h2).mono fun e W' ⟨he, hg⟩ => ?_
  subst he
  letI : Eng.Deep := ⟨0, 0⟩
  letI : Eng.Env := Eng.noEnv
  exact ⟨_, rfl, Eng.post_of_kept (pa := p0 ++ (p1 ++ (p2))) (pv := []) hW' (fun _ _ => (trodAll_cons_mk (shut_bool Try.underlying4 _) trodAll_mk0))
    (fun sp hsp => by
      have q := (trodAll_cons_mk (Eng.trod_keep (sp := sp) laid reads32 row32 h0 hg fun q hq => hsp q (by simp [hq])) (trodAll_cons_mk (Eng.trod_keep (sp := sp) laid reads55 row55 h1 hg fun q hq => hsp q (by simp [hq])) (trodAll_cons_mk (Eng.trod_keep (sp := sp) laid reads48 row48 h2 hg fun q hq => hsp q (by simp [hq])) trodAll_mk0)))
      simp only [List.append_nil] at q
      rw [Try.params13]; exact q) (fun _ _ => rfl) (by simp) hg⟩

theorem over : Rows.machRefusesRow.holds Try.pinned (OpenSpec.ofChange Rows.machRefusesSpec) :=
  OpenClaim.holds_of_wide 13 Try.f13 rfl rfl rfl rfl rfl rfl rfl ⟨rfl, rfl, rfl, rfl, rfl⟩ rfl rfl rfl rfl rfl (by kernel_rfl) Try.func13 (by kernel_rfl)
    (of_decide_eq_true (by kernel_rfl)) (by unfold Func.isWrapper; first | (rw [if_pos (by decide +kernel)]; kernel_rfl) | (rw [if_neg (by decide +kernel)]; exact ⟨rfl, rfl⟩))
    (fun os started H enc _ => lifted os started H enc)

/-- the statement -/
theorem proved : Rows.MachRefusesSaid :=
  over
#print axioms proved
end Go.Proofs.Ytjljolnhmmbkoaa.machRefuses
