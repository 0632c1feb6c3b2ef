/- What is proved: MachRuns' walk. MachRuns gives true, whatever its arguments and the world. Conditions: as each theorem says. -/
import Derived.Test.YtjljolnhmmbkoaaMacK
import Derived.Test.YtjljolnhmmbkoaaValG
import Derived.Test.YtjljolnhmmbkoaaDig
import Derived.Test.YtjljolnhmmbkoaaWak2
import Derived.Test.YtjljolnhmmbkoaaMacE
import Derived.Test.YtjljolnhmmbkoaaWJ
import Derived.Test.YtjljolnhmmbkoaaRows
import Derived.WalkKit
import Derived.ProofKit
import Derived.OpenShut
set_option linter.unusedVariables false
set_option linter.unusedSimpArgs false
set_option linter.unusedSectionVars false
namespace Go.Proofs.Ytjljolnhmmbkoaa
open Go.Eng Go.Plain
set_option autoImplicit false
set_option maxRecDepth 100000
variable {nat : ∀ [Deep], Nats} {F : List Nat → List Nat → List Nat}
theorem _root_.Go.Eng.OwnA.bk {base : Nat} {η : HN} {x : AV} {l : List Nat} (h : OwnA 1 base η x l.length (u8s l)) : Dig.RdBk η [] x l := by
 obtain ⟨h0, ⟨rfl, h1⟩ | ⟨b, h1, h2, ⟨rfl, h3, _⟩ | ⟨rfl, h3⟩⟩⟩ := h
 ·exact .inl ⟨List.eq_nil_of_length_eq_zero h1, .inl rfl⟩
 ·exact .inl ⟨List.eq_nil_of_length_eq_zero h3, .inr ⟨_, _, _, rfl⟩⟩
 ·exact .inr ⟨b, 0, _, _, rfl, ⟨rfl, rfl, false, _, h3, by rw [u8s_length]; omega, by rw [List.drop_zero, List.take_of_length_le (by rw [u8s_length]; exact Nat.le_refl _)]⟩, h2, nofun⟩
theorem dig_ref_then (X : Dig.Ctx2 nat F) {η : HN} {y : AV} {l : List Nat} {Q : AV → HN → Prop} (hy : Dig.RdBk η [] y l) (hl : l.length ≤ 549755813888) (h : ∀ η', ExtB η.nx η η' → Q (.agg (u8s (Dig.shaF F l))) η') : ∃ v η', CallN Try.prog nat 37 [y] η v η' ∧ Q v η' := by
 obtain ⟨v, η', k, rfl, E⟩ := Dig.ref_spec X η y l hy hl
 exact ⟨_, η', k, h η' E⟩
set_option maxHeartbeats 4000000 in
theorem runs_spec (U : Usual nat) (h22 : Wakes nat) (X : Dig.Ctx2 nat F) (η : HN) (z : PV) (p : PD) (hp : IsP η z p) (hr : Resd p) (ya : AV) (A : List (AV × List Nat)) (hya : RowsAt η ya A) (hla : A.length ≤ 9223372036854775807) :
  ∃ r η', CallN Try.prog nat 9 [.agg z.cells, ya] η r η' ∧ r = .bool true := by
 refine call_of (PT := pl9) Try.func9 rfl (U 9 (by decide)) ok9 rfl ?_
 simp -implicitDefEqProofs (disch := omega) only [go_sem]
 refine thenN_call ⟨_, _, h22 _, ?_⟩
 have E1 : ExtB η.nx η (η.new (.live false z.cells)) := extN (.refl _ _)
 have x1 : (η.new (.live false z.cells)).f η.nx = .live false z.cells := by show (if η.nx = η.nx then _ else _) = _; rw [if_pos rfl]
 have n1 : (η.new (.live false z.cells)).nx = η.nx + 1 := rfl
 generalize η.new (.live false z.cells) = η1 at *
 simp -implicitDefEqProofs (disch := omega) only [go_sem, Bool.not_true, x1]
 refine thenN_call (great30_then U (hp.ext E1) hr fun η2 E2 => ?_)
 have F2 := extT E1 E2
 have g2 := E2.1
 have x2 := (E2.2 _ (by omega)).trans x1
 cases hg : greatF p with
 | true => simp -implicitDefEqProofs (disch := omega) only [go_sem]
 | false =>
 have hf := hr.fine hg
 simp -implicitDefEqProofs (disch := omega) only [go_sem]
 refine thenN_call ⟨_, _, heavy_call U (hya.ext F2) hla, ?_⟩
 cases hA : heavyF A with
 | true => simp -implicitDefEqProofs (disch := omega) only [go_sem]
 | false =>
 have lA : A.length ≤ 40 := by unfold heavyF at hA; have := (Bool.or_eq_false_iff.1 hA).1; have := of_decide_eq_false this; omega
 simp -implicitDefEqProofs (disch := omega) only [go_sem, x2]
 refine thenN_call (new_then U (hp.ext F2) hf (fun hno η3 E3 => ?_) fun hck lo1 hi1 z1 mp1 mb1 η3 M1 hlo1 E3 => ?_)
 ·have F3 := extT F2 E3
  have x3 := (E3.2 _ (by omega)).trans x2
  simp -implicitDefEqProofs (disch := omega) only [go_sem, x3]
  refine thenN_call (refcheck_then U z p (hp.ext F3) hf fun η4 E4 => ?_)
  have e := eq43_nil
  simp -implicitDefEqProofs (disch := omega) only [go_sem, good43, e]
 have F3 := extT F2 E3
 have g3 := E3.1
 have x3 := (E3.2 _ (by omega)).trans x2
 simp -implicitDefEqProofs (disch := omega) only [go_sem, x3]
 refine thenN_call (refcheck_then U z p (hp.ext F3) hf fun η4 E4 => ?_)
 have F4 := extT F3 E4
 have g4 := E4.1
 have x4 := (E4.2 _ (by omega)).trans x3
 rw [hck]
 simp -implicitDefEqProofs (disch := omega) only [go_sem, x4]
 refine thenN_call (refnew_then U ((held_0 hp).of F4.1 fun b _ hb => F4.2 b hb) hf fun mp2 mb2 η5 M2 q1 q2 E5 => ?_)
 have F5 := extT F4 E5
 have a1 := M1.at_
 have b1 := M1.mat
 have a2 := M2.at_
 have b2 := M2.mat
 have M1 := M1.keep (η' := η5) (Nat.le_trans E4.1 E5.1) fun b hb _ => (E5.2 b (by omega)).trans (E4.2 b hb)
 have F5' : ExtB η2.nx η2 η5 := E3.trans ((E4.mono E3.1).trans (E5.mono (Nat.le_trans E3.1 E4.1)))
 simp -implicitDefEqProofs (disch := omega) only [go_sem]
 obtain ⟨s0, hs0⟩ : ∃ s : List Nat × Nat, s = (List.replicate p.mems.length 0, 0) := ⟨_, rfl⟩
 obtain ⟨I1, hI1⟩ : ∃ I : Nat → FN → HN → Prop, ∀ m φ ζ, I m φ ζ ↔ ∃ i, m = A.length - i ∧ i ≤ A.length ∧ φ 1 = ya ∧ φ 5 = .ptr mp1 0 ∧ φ 9 = .ptr mp2 0 ∧ φ 10 = .int .i64 i ∧ MachAt lo1 hi1 ζ mp1 mb1 z1 p (runS p s0 A i).1 (runS p s0 A i).2 ∧ MachAt 0 η.nx ζ mp2 mb2 z p (runS p s0 A i).1 (runS p s0 A i).2 ∧ KOk p.mems (runS p s0 A i).1 ∧ ExtB η2.nx η2 ζ ∧ η5.nx ≤ ζ.nx := ⟨_, fun _ _ _ => Iff.rfl⟩
 refine wpN_loop I1 A.length ((hI1 _ _ _).2 ⟨0, rfl, Nat.zero_le _, rfl, rfl, rfl, rfl, by rw [runS_0, hs0]; exact M1, by rw [runS_0, hs0]; exact M2, by rw [runS_0, hs0]; exact .zero _, F5', Nat.le_refl _⟩) ?_
 clear M1 M2
 intro m φ ζ hI
 obtain ⟨i, hm, hi, p1, p5, p9, p10, M1, M2, KO, FZ, nz⟩ := (hI1 _ _ _).1 hI
 clear hI
 have lya := (hya.ext F2).len hla
 have ht := runS_t (p := p) (s := s0) (A := A) i hi
 have ht0 : s0.2 = 0 := by rw [hs0]
 have c1 := M1.at_
 have c2 := M2.at_
 by_cases hlt : i < A.length
 ·obtain ⟨b, off, cap, ro, row, ye, hb, hbn, hrw⟩ := (hya.ext F2).at hlt
  have RW := (hya.ext F2).2 _ (List.getElem_mem hlt)
  have hb1 := (FZ.2 _ hbn).trans hb
  rw [ye] at p1
  have hml2 := outS_len (r := A[i].2) hf ⟨M2.len, M2.lt.1⟩ RW.lt
  simp -implicitDefEqProofs (disch := omega) only [go_sem, p1, p5, p9, p10, hb1, hrw]
  refine thenN_call (step_go U M1 hf hck (RW.stays FZ (Nat.le_refl _) (by omega) (by omega) FZ.1) ⟨RW.len, RW.lt⟩ (by omega) fun x5 ζ5 M5 O5 n5 k5 => ?_)
  have M2 := M2.keep n5 fun b hb hh => k5 b hb (by omega) (by omega)
  have G5 : ExtB η2.nx η2 ζ5 := ⟨Nat.le_trans FZ.1 n5, fun b hb => (k5 b (by omega) (by omega) (by omega)).trans (FZ.2 b hb)⟩
  have hb2 := (G5.2 _ hbn).trans hb
  simp -implicitDefEqProofs (disch := omega) only [go_sem, p1, p5, p9, p10, hb2, hrw]
  refine thenN_call (refstep_go U M2 hf hck KO (RW.stays G5 (Nat.le_refl _) (by omega) (by omega) G5.1) ⟨RW.len, RW.lt⟩ (by omega) fun x6 ζ6 M6 KO6 O6 n6 k6 => ?_)
  have M5 := M5.keep n6 fun b hb hh => k6 b hb (by omega) (by omega)
  have O5 := O5.keep n6 fun b h1 h2 => k6 b h2 (by omega) (by omega)
  have G6 : ExtB η2.nx η2 ζ6 := ⟨Nat.le_trans G5.1 n6, fun b hb => (k6 b (by omega) (by omega) (by omega)).trans (G5.2 b hb)⟩
  have rs := runS_s (p := p) (s := s0) hlt
  have M5 : MachAt lo1 hi1 ζ6 mp1 mb1 z1 p (runS p s0 A (i + 1)).1 (runS p s0 A (i + 1)).2 := by rw [rs]; exact M5
  have M6 : MachAt 0 η.nx ζ6 mp2 mb2 z p (runS p s0 A (i + 1)).1 (runS p s0 A (i + 1)).2 := by rw [rs]; exact M6
  have KO6 : KOk p.mems (runS p s0 A (i + 1)).1 := by rw [rs]; exact KO6
  have fin : ∀ φ' ζ', ExtB ζ6.nx ζ6 ζ' → φ' 1 = ya → φ' 5 = .ptr mp1 0 → φ' 9 = .ptr mp2 0 → φ' 10 = .int .i64 (i + 1) → ∃ m', m' < m ∧ I1 m' φ' ζ' := fun φ' ζ' E q1 q5 q9 q10 =>
   ⟨A.length - (i + 1), by omega, (hI1 _ _ _).2 ⟨i + 1, rfl, by omega, q1, q5, q9, q10, M5.keep E.1 fun b hb _ => E.2 b hb, M6.keep E.1 fun b hb _ => E.2 b hb, KO6, G6.trans (E.mono G6.1), by have := E.1; omega⟩⟩
  generalize runS p s0 A (i + 1) = u at *
  have hul : u.1.length ≤ 1000000 := by rw [M5.len]; have := (check_lens hck).mems; omega
  have hut : u.2 ≤ u.2 := Nat.le_refl _
  have same := same_call U O5.rd O6.rd hml2 hml2
  rw [decide_eq_true rfl] at same
  have he : errS p A[i].2 = if fitF p.ins A[i].2 = true then 0 else 1 := rfl
  cases hfit : fitF p.ins A[i].2 with
  | true =>
   rw [hfit, if_pos rfl] at he
   simp -implicitDefEqProofs (disch := omega) only [go_sem, p1, p5, p9, p10, he]
   refine dE_call ⟨_, _, same, ?_⟩
   simp -implicitDefEqProofs (disch := omega) only [go_sem, p1, p5, p9, p10]
   refine dE_call (state_then U M5 hul fun v1 ζ7 o1 E7 => ?_)
   have hs1 := state_str o1
   have M5 := M5.keep E7.1 fun b hb _ => E7.2 b hb
   have M6 := M6.keep E7.1 fun b hb _ => E7.2 b hb
   simp -implicitDefEqProofs (disch := omega) only [go_sem, p1, p5, p9, p10, hs1]
   refine dE_call (refstate_then U M6 hul fun v2 ζ8 o2 E8 => ?_)
   have hs2 := state_str o2
   have hs12 := state_str (o1.ext E8)
   have M5 := M5.keep E8.1 fun b hb _ => E8.2 b hb
   have M6 := M6.keep E8.1 fun b hb _ => E8.2 b hb
   obtain ⟨yz, cz, _⟩ := M6.cells
   simp -implicitDefEqProofs (disch := omega) only [go_sem, p1, p5, p9, p10, hs1, hs2, hs12, strEq_rfl]
   refine dE_call ⟨_, _, ticks_call U M5, ?_⟩
   simp -implicitDefEqProofs (disch := omega) only [go_sem, p1, p5, p9, p10, hs1, hs2, hs12, strEq_rfl, cz, not_le_f, false_implies, implies_true, true_and, and_true]
   exact fin _ _ (extT E7 E8) (ye ▸ p1) p5 p9 rfl
  | false =>
   rw [hfit, if_neg (by decide)] at he
   simp -implicitDefEqProofs (disch := omega) only [go_sem, p1, p5, p9, p10, he]
   refine dE_call ⟨_, _, same, ?_⟩
   simp -implicitDefEqProofs (disch := omega) only [go_sem, p1, p5, p9, p10]
   refine dE_call (state_then U M5 hul fun v1 ζ7 o1 E7 => ?_)
   have hs1 := state_str o1
   have M5 := M5.keep E7.1 fun b hb _ => E7.2 b hb
   have M6 := M6.keep E7.1 fun b hb _ => E7.2 b hb
   simp -implicitDefEqProofs (disch := omega) only [go_sem, p1, p5, p9, p10, hs1]
   refine dE_call (refstate_then U M6 hul fun v2 ζ8 o2 E8 => ?_)
   have hs2 := state_str o2
   have hs12 := state_str (o1.ext E8)
   have M5 := M5.keep E8.1 fun b hb _ => E8.2 b hb
   have M6 := M6.keep E8.1 fun b hb _ => E8.2 b hb
   obtain ⟨yz, cz, _⟩ := M6.cells
   simp -implicitDefEqProofs (disch := omega) only [go_sem, p1, p5, p9, p10, hs1, hs2, hs12, strEq_rfl]
   refine dE_call ⟨_, _, ticks_call U M5, ?_⟩
   simp -implicitDefEqProofs (disch := omega) only [go_sem, p1, p5, p9, p10, hs1, hs2, hs12, strEq_rfl, cz, not_le_f, false_implies, implies_true, true_and, and_true]
   exact fin _ _ (extT E7 E8) (ye ▸ p1) p5 p9 rfl
 ·obtain rfl : i = A.length := by omega
  generalize runS p s0 A A.length = u at *
  have hul : u.1.length ≤ 1000000 := by rw [M1.len]; have := (check_lens hck).mems; omega
  simp -implicitDefEqProofs (disch := omega) only [go_sem, p1, p5, p9, p10, lya]
  refine thenN_call (digest_then U X.base M1 hul fun ζ7 E7 => ?_)
  have M2 := M2.keep E7.1 fun b hb _ => E7.2 b hb
  simp -implicitDefEqProofs (disch := omega) only [go_sem, p1, p5, p9, p10]
  refine thenN_call (refstate_own U M2 hul fun v2 ζ8 o2 E8 => ?_)
  simp -implicitDefEqProofs (disch := omega) only [go_sem, p1, p5, p9, p10]
  refine thenN_call (dig_ref_then X o2.bk (by have := stateB_len u.2 u.1; omega) fun ζ9 E9 => ?_)
  have eqD := eq64_rfl (Dig.shaF F (stateB u.2 u.1)) (Dig.sumF_len _ _ _)
  simp -implicitDefEqProofs (disch := omega) only [go_sem, good64, eqD]
end Go.Proofs.Ytjljolnhmmbkoaa
namespace Go.Proofs.Ytjljolnhmmbkoaa.machRuns
open Go.ChangeShapes Go.WideShapes Go.ChangeAt Go.RowKit
set_option autoImplicit false
set_option linter.unusedVariables false

theorem own : ownKnob Try.prog.godebug = none := by kernel_rfl
theorem laid : laidOutB Try.prog = true := by kernel_rfl
theorem reads32 : Try.prog.readableRec 32 = true := by kernel_rfl
theorem row32 : 32 < Try.prog.types.size := Nat.le_of_ble_eq_true (by kernel_rfl)
theorem reads55 : Try.prog.readableRec 55 = true := by kernel_rfl
theorem row55 : 55 < Try.prog.types.size := Nat.le_of_ble_eq_true (by kernel_rfl)
set_option maxRecDepth 100000 in
theorem walk {H : Type} {enc : TypeId × Value → H} {W : World} {base : Nat} {v0 : Value} {d0 : DataW H} {ps0 : List MemPlace} {v1 : Value} {d1 : DataW H} {ps1 : List MemPlace} (o0 : Value.okWide Try.prog W .any base 32 v0) (h0 : DataW.Trod enc Try.prog W 0 (fun _ => true) true 32 v0 d0 ps0) (o1 : Value.okWide Try.prog W .any base 55 v1) (h1 : DataW.Trod enc Try.prog W 0 (fun _ => true) true 55 v1 d1 ps1) :
  Calls Try.prog 9 #[v0, v1] W fun e w' => e = .returned (.bool true) ∧ Eng.Kept W w' := by
 obtain ⟨bs, x, zs, hb, vl, ⟨c0, e0, rfl, _, _, ⟨zs0, rfl, rep0⟩, rep1⟩⟩ := Eng.LayC.done ((Eng.lay_struct 6 plain32 Try.underlying32 o0 h0).app (Eng.lay_slice 6 plain55 Try.underlying55 o1 h1))
 obtain ⟨z0, p0, rfl, hp0, hr0⟩ := rep_prog (m := 2) rep0
 obtain ⟨y1, l1, rfl, hy1, hl1⟩ := rep_rows (m := 3) rep1
 obtain ⟨r, η', hc, rfl⟩ := runs_spec usual5 wakes5 dig5 (Eng.startH Try.prog bs) z0 p0 hp0 hr0 y1 l1 hy1 hl1
 refine (Eng.law_calls (us := [v0, v1]) good nat5_ok hc (w := W) (x := x) hb vl).mono fun e w' ⟨u, ρ', he, hu, hk⟩ => ?_
 letI : Eng.Deep := ⟨0, 0⟩
 letI : Eng.Env := Eng.noEnv
 rw [Eng.VR_bool.1 hu] at he
 exact ⟨he, hk⟩

set_option maxRecDepth 100000 in
theorem lifted (os : Os) (started : os.Started) (H : Type) (enc : TypeId × Value → H) :
  ReturnsInHanded {} Try.checked os 9 .any (Rows.machRunsSpec.pre6 enc Try.prog Try.f9 Rows.machRunsRow.domain false) (Rows.machRunsSpec.post enc Try.prog Try.f9 false true false false) := by
 refine returnsInHanded_of_change (C := Try.checked) own started (by kernel_rfl) Try.func9
  (ChangeSpec.witness6 (enc := enc) (C := Try.checked) false ⟨#[], #[.agg #[.slice none 0 0, .slice none 0 0, .slice none 0 0, .slice none 0 0, .slice none 0 0, .slice none 0 0], .slice none 0 0], []⟩ 8 (by kernel_rfl) (by kernel_rfl) (by kernel_rfl) (by kernel_rfl)) ?_
 intro W base args ds gs before hval0 hW hcnd _
 have hval : ∀ (j : Nat) t v, Try.f9.params[j]? = some t → args[j]? = some v → Value.okWide Try.prog W .any base t v := hval0
 have hW' := hW
 obtain ⟨p, q, hA0, hV, rfl, hfz, hnd⟩ := hW
 have hA : DataW.TrodAll enc Try.prog W 0 (fun _ => true) true Try.f9.params.toList args.toList ds p := hA0
 rw [Try.params9] at hA hval
 obtain ⟨v0, vs0, d0, ds0, p0, q0, hargs, rfl, rfl, h0, r0⟩ := trodAll_cons hA
 obtain ⟨v1, vs1, d1, ds1, p1, q1, rfl, rfl, rfl, h1, r1⟩ := trodAll_cons r0
 obtain ⟨rfl, rfl, rfl⟩ := trodAll_nil r1
 obtain rfl : args = #[v0, v1] := by cases args; simp_all
 obtain ⟨rfl, rfl⟩ := trodVars_none hV
 have o0 := hval 0 32 v0 rfl rfl
 have o1 := hval 1 55 v1 rfl rfl
 clear hA0 hval0
 simp only [List.append_nil] at hW'
 refine (walk o0 h0 o1 h1).mono fun e W' ⟨he, hg⟩ => ?_
 subst he
 letI : Eng.Deep := ⟨0, 0⟩
 letI : Eng.Env := Eng.noEnv
 exact ⟨_, rfl, Eng.post_of_kept (pa := p0 ++ (p1)) (pv := []) hW' (fun _ _ => (trodAll_cons_mk (shut_bool Try.underlying4 _) trodAll_mk0))
  (fun sp hsp => by
   have q := (trodAll_cons_mk (Eng.trod_keep (sp := sp) laid reads32 row32 h0 hg fun q hq => hsp q (by simp [hq])) (trodAll_cons_mk (Eng.trod_keep (sp := sp) laid reads55 row55 h1 hg fun q hq => hsp q (by simp [hq])) trodAll_mk0))
   simp only [List.append_nil] at q
   rw [Try.params9]; exact q) (fun _ _ => rfl) (by simp) hg⟩

theorem over : Rows.machRunsRow.holds Try.pinned (OpenSpec.ofChange Rows.machRunsSpec) :=
 OpenClaim.holds_of_wide 9 Try.f9 rfl rfl rfl rfl rfl rfl rfl ⟨rfl, rfl, rfl, rfl, rfl⟩ rfl rfl rfl rfl rfl (by kernel_rfl) Try.func9 (by kernel_rfl)
  (of_decide_eq_true (by kernel_rfl)) (by unfold Func.isWrapper; first | (rw [if_pos (by decide +kernel)]; kernel_rfl) | (rw [if_neg (by decide +kernel)]; exact ⟨rfl, rfl⟩))
  (fun os started H enc _ => lifted os started H enc)

theorem proved : Rows.MachRunsSaid :=
 over
#print axioms proved
end Go.Proofs.Ytjljolnhmmbkoaa.machRuns
