/- What is proved: CodeSpoilt gives true, whatever its arguments and the world in which the listed variables read as the program's text lays them; with the tie to that text. Conditions: as each theorem says. -/
import Derived.Test.YtjljolnhmmbkoaaDoorCodG
import Derived.Test.YtjljolnhmmbkoaaDoorWJ
import Derived.Test.YtjljolnhmmbkoaaDoorRows
import Derived.Test.YtjljolnhmmbkoaaDoorCards
import Derived.Test.YtjljolnhmmbkoaaDoorTie
import Derived.WalkKit
import Derived.ProofKit
import Derived.LaidMore
import Derived.OpenShut
import Derived.Stop.Joined
import Derived.SevenTiedAt
set_option linter.unusedVariables false
set_option linter.unusedSimpArgs false
set_option linter.unusedSectionVars false
namespace Go.Proofs.YtjljolnhmmbkoaaDoor.codeSpoilt
open Go.ChangeShapes Go.WideShapes Go.ChangeAt Go.WideMaps Go.WideElems Go.RowKit
set_option autoImplicit false
set_option linter.unusedVariables false

theorem own : ownKnob Tryd.prog.godebug = none := by kernel_rfl
theorem laid : laidOutB Tryd.prog = true := by kernel_rfl
theorem reads3 : Tryd.prog.readableRec 3 = true := by kernel_rfl
theorem row3 : 3 < Tryd.prog.types.size := Nat.le_of_ble_eq_true (by kernel_rfl)
theorem plain_in3 : Tryd.prog.wantsStandIn 3 = false := by kernel_rfl
theorem reads5 : Tryd.prog.readableRec 5 = true := by kernel_rfl
theorem row5 : 5 < Tryd.prog.types.size := Nat.le_of_ble_eq_true (by kernel_rfl)
theorem plain_in5 : Tryd.prog.wantsStandIn 5 = false := by kernel_rfl
theorem reads27 : Tryd.prog.readableRec 27 = true := by kernel_rfl
theorem row27 : 27 < Tryd.prog.types.size := Nat.le_of_ble_eq_true (by kernel_rfl)
theorem plain_in27 : Tryd.prog.wantsStandIn 27 = false := by kernel_rfl
set_option maxRecDepth 100000 in
theorem walk {H : Type} {enc : TypeId × Value → H} {W : World} {base : Nat} {v0 : Value} {d0 : DataW H} {ps0 : List MemPlace} {v1 : Value} {d1 : DataW H} {ps1 : List MemPlace} {v2 : Value} {d2 : DataW H} {ps2 : List MemPlace} (o0 : Value.okWide Tryd.prog W .any base 27 v0) (h0 : DataW.Trod enc Tryd.prog W 0 (fun _ => true) true 27 v0 d0 ps0) (o1 : Value.okWide Tryd.prog W .any base 3 v1) (h1 : DataW.Trod enc Tryd.prog W 0 (fun _ => true) true 3 v1 d1 ps1) (o2 : Value.okWide Tryd.prog W .any base 5 v2) (h2 : DataW.Trod enc Tryd.prog W 0 (fun _ => true) true 5 v2 d2 ps2) :
    Calls Tryd.prog 6 #[v0, v1, v2] W fun e w' => e = .returned (.bool true) ∧ Eng.Kept W w' := by
  obtain ⟨bs, x, zs, hb, vl, ⟨c0, e0, rfl, _, _, ⟨zs0, rfl, rep0⟩, ⟨c1, e1, rfl, _, _, rep1, rep2⟩⟩⟩ := Eng.LayC.done ((Eng.lay_struct 6 plain27 Tryd.underlying27 o0 h0).app ((Eng.lay_int 6 plain3 Tryd.underlying3 o1 h1).app (Eng.lay_int 6 plain5 Tryd.underlying5 o2 h2)))
  obtain ⟨z0, p0, rfl, hp0, hr0⟩ := rep_prog (m := 2) rep0
  obtain ⟨n1, hn1, rfl⟩ := rep_int (m := 5) Tryd.underlying3 rep1
  obtain ⟨n2, hn2, rfl⟩ := rep_u8 (m := 5) rep2
  obtain ⟨r, η', hc, rfl⟩ := spoilt_spec usual1 rfl (Eng.startH Tryd.prog bs) z0 p0 n1 n2 hp0 hr0 hn1 hn2
  refine (Eng.law_calls (us := [v0, v1, v2]) good nat1_ok hc (w := W) (x := x) hb vl).mono fun e w' ⟨u, ρ', he, hu, hk⟩ => ?_
  letI : Eng.Deep := ⟨0, 0⟩
  letI : Eng.Env := Eng.noEnv
  rw [Eng.VR_bool.1 hu] at he
  exact ⟨he, hk⟩

/-! ### The row's step -/
def laidHere : List (String × DataW Unit) := [("math/bits.deBruijn32tab", Rows.laid_math_bits_deBruijn32tab), ("math/bits.deBruijn64tab", Rows.laid_math_bits_deBruijn64tab), ("internal/strconv.uint64pow10", Rows.laid_internal_strconv_uint64pow10)]
theorem door_met (os : Os) (args : Array Value) : laidMetH Tryd.prog laidHere ((World.doorLaid Tryd.prog 400 os).forCall (fun _ _ => 0) ⟨#[], args, []⟩).memory :=
  laidMetH_of_parts3 (fuel := 8) (laidMet_of_run' 8 (by kernel_rfl) (by kernel_rfl)) (by kernel_rfl) (by kernel_rfl)
set_option maxRecDepth 100000 in
theorem lifted (os : Os) (started : os.Started) (H : Type) (enc : TypeId × Value → H) :
    ReturnsInHanded {} Tryd.checked os 6 .any (fun w args => (Rows.codeSpoiltSpec.pre enc Tryd.prog Tryd.f6 [] false w args ∧ laidMetH Tryd.prog laidHere w) ∧ sizedMet enc Tryd.prog Tryd.f6 (OpenSpec.ofChange Rows.codeSpoiltSpec) false w args)
      (Rows.codeSpoiltSpec.post enc Tryd.prog Tryd.f6 false true false false) := by
  refine returnsInHanded_of_change_and (C := Tryd.checked) (X := fun w _ => laidMetH Tryd.prog laidHere w) (fun _ _ _ hh h => h.of_heap hh) own started (by kernel_rfl) Tryd.func6
    (ChangeSpec.witness_shaped (enc := enc) (C := Tryd.checked) (os := os) (X := fun w _ => laidMetH Tryd.prog laidHere w) false (World.doorLaid Tryd.prog 400 os) #[.agg #[.slice none 0 0, .slice none 0 0, .slice none 0 0, .slice none 0 0, .slice none 0 0, .slice none 0 0], .int .i64 0, .int .u8 0] 8 rfl (World.shaped_of_RefB (by kernel_rfl) (by kernel_rfl)) (by kernel_rfl) (by kernel_rfl) (by kernel_rfl) (door_met os _)) ?_
  intro W base args ds gs before hval0 hW _ _ hL _
  have hval : ∀ (j : Nat) t v, Tryd.f6.params[j]? = some t → args[j]? = some v → Value.okWide Tryd.prog W .any base t v := hval0
  have hW' := hW
  obtain ⟨p, q, hA0, hV, rfl, hfz, hnd⟩ := hW
  have hA : DataW.TrodAll enc Tryd.prog W 0 (fun _ => true) true Tryd.f6.params.toList args.toList ds p := hA0
  rw [Tryd.params6] at hA hval
  obtain ⟨v0, vs0, d0, ds0, p0, q0, hargs, rfl, rfl, h0, r0⟩ := trodAll_cons hA
  obtain ⟨v1, vs1, d1, ds1, p1, q1, rfl, rfl, rfl, h1, r1⟩ := trodAll_cons r0
  obtain ⟨v2, vs2, d2, ds2, p2, q2, rfl, rfl, rfl, h2, r2⟩ := trodAll_cons r1
  obtain ⟨rfl, rfl, rfl⟩ := trodAll_nil r2
  obtain rfl : args = #[v0, v1, v2] := by cases args; simp_all
  obtain ⟨rfl, rfl⟩ := trodVars_none hV
  have o0 := hval 0 27 v0 rfl rfl
  have o1 := hval 1 3 v1 rfl rfl
  have o2 := hval 2 5 v2 rfl rfl
  clear hA0 hval0
  simp only [List.append_nil] at hW'
  refine (walk o0 h0 o1 h1 o2 h2).mono fun e W' ⟨he, hg⟩ => ?_
  subst he
  letI : Eng.Deep := ⟨0, 0⟩
  letI : Eng.Env := Eng.noEnv
  exact ⟨_, rfl, Eng.post_of_kept (pa := p0 ++ (p1 ++ (p2))) (pv := []) hW' (fun _ _ => (trodAll_cons_mk (shut_bool Tryd.underlying4 _) trodAll_mk0))
    (fun sp hsp => by
      have q := (trodAll_cons_mk (Eng.trod_keep (sp := sp) laid reads27 row27 h0 hg fun q hq => hsp q (by simp [hq])) (trodAll_cons_mk (Eng.trod_keep (sp := sp) laid reads3 row3 h1 hg fun q hq => hsp q (by simp [hq])) (trodAll_cons_mk (Eng.trod_keep (sp := sp) laid reads5 row5 h2 hg fun q hq => hsp q (by simp [hq])) trodAll_mk0)))
      simp only [List.append_nil] at q
      rw [Tryd.params6]; exact q) (fun _ _ => rfl) (by simp) hg⟩

theorem over : Rows.CodeSpoiltSaid :=
  OpenClaim.holds_of_wide 6 Tryd.f6 rfl rfl rfl rfl rfl rfl rfl ⟨rfl, rfl, rfl, rfl, rfl⟩ rfl rfl rfl rfl rfl (by kernel_rfl) Tryd.func6 (by kernel_rfl)
    (of_decide_eq_true (by kernel_rfl)) (by unfold Func.isWrapper; first | (rw [if_pos (by decide +kernel)]; kernel_rfl) | (rw [if_neg (by decide +kernel)]; exact ⟨rfl, rfl⟩))
    (fun os started H enc _ => lifted os started H enc)

/-- the statement -/
theorem proved : Rows.CodeSpoiltCardSaid :=
  Claim7.holds_tied_plain_at .later [] [.data, .data, .data] true (true, "40c5685bb1b2d6c5cfdf8f96d8a7e84e6dd0c4efd46e18657bdac27bdbdd2772") false
    over (fun _ h => by cases h) (by kernel_rfl) (fun _ h => by cases h) codeSpoilt_row_tie rfl ⟨rfl, rfl⟩ (by kernel_rfl) rfl
    (fun f fn hf hfn => by
      obtain rfl : f = 6 := Option.some.inj ((show Tryd.prog.funcNamed "escapement/escapementlaw14.CodeSpoilt" = some 6 by kernel_rfl).symm.trans hf) |>.symm
      obtain rfl : fn = Tryd.f6 := (Option.some.inj (Tryd.func6.symm.trans hfn)).symm
      exact ⟨by kernel_rfl, fun j t ht => by
        rw [Tryd.params6] at ht
        match j with
        | 0 => simp at ht; subst ht; exact plain_in27
        | 1 => simp at ht; subst ht; exact plain_in3
        | 2 => simp at ht; subst ht; exact plain_in5
        | j + 3 => simp at ht⟩)
    (by kernel_rfl)
#print axioms proved
end Go.Proofs.YtjljolnhmmbkoaaDoor.codeSpoilt
