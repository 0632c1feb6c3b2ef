/- What is proved: CodeBytes gives true, whatever its arguments and the world in which the listed variables read as the program's text lays them; with the tie to that text. Conditions: as each theorem says. -/
import Derived.Test.YtjljolnhmmbkoaaDoorCodL
import Derived.Test.YtjljolnhmmbkoaaDoorWJ
import Derived.Test.YtjljolnhmmbkoaaDoorRows
import Derived.Test.YtjljolnhmmbkoaaDoorCards
import Derived.Test.YtjljolnhmmbkoaaDoorTie
import Derived.WalkKit
import Derived.ProofKit
import Derived.LaidMore
import Derived.OpenShut
import Derived.Stop.Joined
import Derived.SevenTiedAt
set_option linter.unusedVariables false
set_option linter.unusedSimpArgs false
set_option linter.unusedSectionVars false
namespace Go.Proofs.YtjljolnhmmbkoaaDoor.codeBytes
open Go.ChangeShapes Go.WideShapes Go.ChangeAt Go.WideMaps Go.WideElems Go.RowKit
set_option autoImplicit false
set_option linter.unusedVariables false

theorem own : ownKnob Tryd.prog.godebug = none := by kernel_rfl
theorem laid : laidOutB Tryd.prog = true := by kernel_rfl
theorem reads27 : Tryd.prog.readableRec 27 = true := by kernel_rfl
theorem row27 : 27 < Tryd.prog.types.size := Nat.le_of_ble_eq_true (by kernel_rfl)
theorem plain_in27 : Tryd.prog.wantsStandIn 27 = false := by kernel_rfl
theorem reads36 : Tryd.prog.readableRec 36 = true := by kernel_rfl
theorem row36 : 36 < Tryd.prog.types.size := Nat.le_of_ble_eq_true (by kernel_rfl)
theorem plain_in36 : Tryd.prog.wantsStandIn 36 = false := by kernel_rfl
set_option maxRecDepth 100000 in
theorem walk {H : Type} {enc : TypeId × Value → H} {W : World} {base : Nat} (hT : ∃ N, ∀ ρ, @Eng.BR Eng.noEnv ρ (Eng.roBlk tabR) 0 0 N W) {v0 : Value} {d0 : DataW H} {ps0 : List MemPlace} {v1 : Value} {d1 : DataW H} {ps1 : List MemPlace} (o0 : Value.okWide Tryd.prog W .any base 27 v0) (h0 : DataW.Trod enc Tryd.prog W 0 (fun _ => true) true 27 v0 d0 ps0) (o1 : Value.okWide Tryd.prog W .any base 36 v1) (h1 : DataW.Trod enc Tryd.prog W 0 (fun _ => true) true 36 v1 d1 ps1) :
    Calls Tryd.prog 4 #[v0, v1] W fun e w' => e = .returned (.bool true) ∧ Eng.Kept W w' := by
  obtain ⟨N, hT⟩ := hT
  obtain ⟨bs, x, zs, hb, vl, ⟨c0, e0, rfl, _, _, ⟨zs0, rfl, rep0⟩, ⟨zs1, rfl, rep1⟩⟩, hN⟩ := Eng.LayC.doneG ((Eng.lay_struct 6 plain27 Tryd.underlying27 o0 h0).app (Eng.lay_struct 6 plain36 Tryd.underlying36 o1 h1)) N
  obtain ⟨z0, p0, rfl, hp0, hr0⟩ := rep_prog (m := 2) rep0
  obtain ⟨s1, rfl⟩ := rep_ins (m := 4) rep1
  obtain ⟨r, η', hc, rfl⟩ := bytes_spec usualB rfl rfl showB (Eng.startG Tryd.prog tabR bs) startG_tab (by show 0 < Tryd.prog.globals.size + bs.length + 1; omega) z0 p0 s1.1 s1.2 (hp0.sub (Eng.sub_startG glob0)) hr0
  refine (Eng.law_callsG (us := [v0, v1]) glob0 good natB_ok hc (w := W) (x := x) (by rw [hN]; exact hT _) hb vl).mono fun e w' ⟨u, ρ', he, hu, hk⟩ => ?_
  letI : Eng.Deep := ⟨0, 0⟩
  letI : Eng.Env := Eng.noEnv
  rw [Eng.VR_bool.1 hu] at he
  exact ⟨he, hk⟩

/-! ### The row's step -/
def laidHere : List (String × DataW Unit) := [("math/bits.deBruijn32tab", Rows.laid_math_bits_deBruijn32tab), ("math/bits.deBruijn64tab", Rows.laid_math_bits_deBruijn64tab), ("internal/strconv.uint64pow10", Rows.laid_internal_strconv_uint64pow10)]
theorem door_met (os : Os) (args : Array Value) : laidMetH Tryd.prog laidHere ((World.doorLaid Tryd.prog 400 os).forCall (fun _ _ => 0) ⟨#[], args, []⟩).memory :=
  laidMetH_of_parts3 (fuel := 8) (laidMet_of_run' 8 (by kernel_rfl) (by kernel_rfl)) (by kernel_rfl) (by kernel_rfl)
set_option maxRecDepth 100000 in
theorem lifted (os : Os) (started : os.Started) (H : Type) (enc : TypeId × Value → H) :
    ReturnsInHanded {} Tryd.checked os 4 .any (fun w args => (Rows.codeBytesSpec.pre enc Tryd.prog Tryd.f4 [] false w args ∧ laidMetH Tryd.prog laidHere w) ∧ sizedMet enc Tryd.prog Tryd.f4 (OpenSpec.ofChange Rows.codeBytesSpec) false w args)
      (Rows.codeBytesSpec.post enc Tryd.prog Tryd.f4 false true false false) := by
  refine returnsInHanded_of_change_and (C := Tryd.checked) (X := fun w _ => laidMetH Tryd.prog laidHere w) (fun _ _ _ hh h => h.of_heap hh) own started (by kernel_rfl) Tryd.func4
    (ChangeSpec.witness_shaped (enc := enc) (C := Tryd.checked) (os := os) (X := fun w _ => laidMetH Tryd.prog laidHere w) false (World.doorLaid Tryd.prog 400 os) #[.agg #[.slice none 0 0, .slice none 0 0, .slice none 0 0, .slice none 0 0, .slice none 0 0, .slice none 0 0], .agg #[.int .i64 0, .int .i64 0, .int .i64 0, .int .i64 0]] 8 rfl (World.shaped_of_RefB (by kernel_rfl) (by kernel_rfl)) (by kernel_rfl) (by kernel_rfl) (by kernel_rfl) (door_met os _)) ?_
  intro W base args ds gs before hval0 hW _ _ hL _
  have hval : ∀ (j : Nat) t v, Tryd.f4.params[j]? = some t → args[j]? = some v → Value.okWide Tryd.prog W .any base t v := hval0
  have hW' := hW
  obtain ⟨p, q, hA0, hV, rfl, hfz, hnd⟩ := hW
  have hA : DataW.TrodAll enc Tryd.prog W 0 (fun _ => true) true Tryd.f4.params.toList args.toList ds p := hA0
  rw [Tryd.params4] at hA hval
  obtain ⟨v0, vs0, d0, ds0, p0, q0, hargs, rfl, rfl, h0, r0⟩ := trodAll_cons hA
  obtain ⟨v1, vs1, d1, ds1, p1, q1, rfl, rfl, rfl, h1, r1⟩ := trodAll_cons r0
  obtain ⟨rfl, rfl, rfl⟩ := trodAll_nil r1
  obtain rfl : args = #[v0, v1] := by cases args; simp_all
  obtain ⟨rfl, rfl⟩ := trodVars_none hV
  have o0 := hval 0 27 v0 rfl rfl
  have o1 := hval 1 36 v1 rfl rfl
  clear hA0 hval0
  simp only [List.append_nil] at hW'
  refine (walk (tab_row hL) o0 h0 o1 h1).mono fun e W' ⟨he, hg⟩ => ?_
  subst he
  letI : Eng.Deep := ⟨0, 0⟩
  letI : Eng.Env := Eng.noEnv
  exact ⟨_, rfl, Eng.post_of_kept (pa := p0 ++ (p1)) (pv := []) hW' (fun _ _ => (trodAll_cons_mk (shut_bool Tryd.underlying4 _) trodAll_mk0))
    (fun sp hsp => by
      have q := (trodAll_cons_mk (Eng.trod_keep (sp := sp) laid reads27 row27 h0 hg fun q hq => hsp q (by simp [hq])) (trodAll_cons_mk (Eng.trod_keep (sp := sp) laid reads36 row36 h1 hg fun q hq => hsp q (by simp [hq])) trodAll_mk0))
      simp only [List.append_nil] at q
      rw [Tryd.params4]; exact q) (fun _ _ => rfl) (by simp) hg⟩

theorem over : Rows.CodeBytesSaid :=
  OpenClaim.holds_of_wide 4 Tryd.f4 rfl rfl rfl rfl rfl rfl rfl ⟨rfl, rfl, rfl, rfl, rfl⟩ rfl rfl rfl rfl rfl (by kernel_rfl) Tryd.func4 (by kernel_rfl)
    (of_decide_eq_true (by kernel_rfl)) (by unfold Func.isWrapper; first | (rw [if_pos (by decide +kernel)]; kernel_rfl) | (rw [if_neg (by decide +kernel)]; exact ⟨rfl, rfl⟩))
    (fun os started H enc _ => lifted os started H enc)

/-- the statement -/
theorem proved : Rows.CodeBytesCardSaid :=
  Claim7.holds_tied_plain_at .later [] [.data, .data, .data] true (true, "40c5685bb1b2d6c5cfdf8f96d8a7e84e6dd0c4efd46e18657bdac27bdbdd2772") false
    over (fun _ h => by cases h) (by kernel_rfl) (fun _ h => by cases h) codeBytes_row_tie rfl ⟨rfl, rfl⟩ (by kernel_rfl) rfl
    (fun f fn hf hfn => by
      obtain rfl : f = 4 := Option.some.inj ((show Tryd.prog.funcNamed "escapement/escapementlaw14.CodeBytes" = some 4 by kernel_rfl).symm.trans hf) |>.symm
      obtain rfl : fn = Tryd.f4 := (Option.some.inj (Tryd.func4.symm.trans hfn)).symm
      exact ⟨by kernel_rfl, fun j t ht => by
        rw [Tryd.params4] at ht
        match j with
        | 0 => simp at ht; subst ht; exact plain_in27
        | 1 => simp at ht; subst ht; exact plain_in36
        | j + 2 => simp at ht⟩)
    (by kernel_rfl)
#print axioms proved
end Go.Proofs.YtjljolnhmmbkoaaDoor.codeBytes
