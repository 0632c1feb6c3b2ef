/- What is proved: MachCopies' walk. MachCopies gives true, whatever its arguments and the world. Conditions: as each theorem says. -/
import Derived.Test.YtjljolnhmmbkoaaMacG
import Derived.Test.YtjljolnhmmbkoaaWake
import Derived.Test.YtjljolnhmmbkoaaWJ
import Derived.Test.YtjljolnhmmbkoaaRows
import Derived.WalkKit
import Derived.ProofKit
import Derived.OpenShut
set_option linter.unusedVariables false
set_option linter.unusedSimpArgs false
set_option linter.unusedSectionVars false
namespace Go.Proofs.Ytjljolnhmmbkoaa
open Go.Eng Go.Plain
set_option autoImplicit false
set_option maxRecDepth 100000
variable {nat : ∀ [Deep], Nats}
set_option maxHeartbeats 4000000 in
theorem copies_spec (U : Usual nat) (h22 : Wakes nat) (η : HN) (z : PV) (p : PD) (hp : IsP η z p) (hr : Resd p) (ya : AV) (A : List (AV × List Nat)) (hya : RowsAt η ya A) (hla : A.length ≤ 9223372036854775807) (yb : AV) (B : List (AV × List Nat)) (hyb : RowsAt η yb B) (hlb : B.length ≤ 9223372036854775807) :
    ∃ r η', CallN Try.prog nat 12 [.agg z.cells, ya, yb] η r η' ∧ r = .bool true := by
  refine call_of (PT := pl12) Try.func12 rfl (U 12 (by decide)) ok12 rfl ?_
  simp -implicitDefEqProofs (disch := omega) only [go_sem]
  refine thenN_call ⟨_, _, h22 _, ?_⟩
  have E1 : ExtB η.nx η (η.new (.live false z.cells)) := extN (.refl _ _)
  have x1 : (η.new (.live false z.cells)).f η.nx = .live false z.cells := by show (if η.nx = η.nx then _ else _) = _; rw [if_pos rfl]
  have n1 : (η.new (.live false z.cells)).nx = η.nx + 1 := rfl
  generalize η.new (.live false z.cells) = η1 at *
  simp -implicitDefEqProofs (disch := omega) only [go_sem, Bool.not_true, x1]
  refine thenN_call (great30_then U (hp.ext E1) hr fun η2 E2 => ?_)
  have F2 := extT E1 E2
  have g2 := E2.1
  have x2 := (E2.2 _ (by omega)).trans x1
  cases hg : greatF p with
  | true => simp -implicitDefEqProofs (disch := omega) only [go_sem]
  | false =>
  have hf := hr.fine hg
  simp -implicitDefEqProofs (disch := omega) only [go_sem]
  refine thenN_call ⟨_, _, heavy_call U (hya.ext F2) hla, ?_⟩
  cases hA : heavyF A with
  | true => simp -implicitDefEqProofs (disch := omega) only [go_sem]
  | false =>
  simp -implicitDefEqProofs (disch := omega) only [go_sem]
  refine thenN_call ⟨_, _, heavy_call U (hyb.ext F2) hlb, ?_⟩
  cases hB : heavyF B with
  | true => simp -implicitDefEqProofs (disch := omega) only [go_sem]
  | false =>
  have lA : A.length ≤ 40 := by unfold heavyF at hA; have := (Bool.or_eq_false_iff.1 hA).1; have := of_decide_eq_false this; omega
  have lB : B.length ≤ 40 := by unfold heavyF at hB; have := (Bool.or_eq_false_iff.1 hB).1; have := of_decide_eq_false this; omega
  simp -implicitDefEqProofs (disch := omega) only [go_sem, x2]
  refine thenN_call (new_then U (hp.ext F2) hf (fun hno η3 E3 => ?_) fun hck lo1 hi1 z1 mp1 mb1 η3 M1 hlo1 E3 => ?_)
  · have e := eq43_nil
    simp -implicitDefEqProofs (disch := omega) only [go_sem, good43, e]
  have F3 := extT F2 E3
  have g3 := E3.1
  have x3 := (E3.2 _ (by omega)).trans x2
  simp -implicitDefEqProofs (disch := omega) only [go_sem, x3]
  refine thenN_call (new_then U (hp.ext F3) hf (fun hno => absurd hck hno) fun _ lo2 hi2 z2 mp2 mb2 η4 M2 hlo2 E4 => ?_)
  have F4 := extT F3 E4
  have g4 := E4.1
  have x4 := (E4.2 _ (by omega)).trans x3
  have a1 := M1.at_
  have b1 := M1.mat
  have a2 := M2.at_
  have b2 := M2.mat
  have M1 := M1.keep (η' := η4) E4.1 fun b hb _ => E4.2 b hb
  simp -implicitDefEqProofs (disch := omega) only [go_sem]
  have keep4 : ∀ ζ : HN, ExtB η2.nx η2 ζ → IsP ζ z p ∧ ζ.f η.nx = .live false z.cells := fun ζ e => ⟨(hp.ext F2).ext e, (e.2 _ (by omega)).trans x2⟩
  obtain ⟨s0, hs0⟩ : ∃ s : List Nat × Nat, s = (List.replicate p.mems.length 0, 0) := ⟨_, rfl⟩
  have F4' : ExtB η2.nx η2 η4 := E3.trans (E4.mono E3.1)
  obtain ⟨I1, hI1⟩ : ∃ I : Nat → FN → HN → Prop, ∀ m φ ζ, I m φ ζ ↔ ∃ i, m = A.length - i ∧ i ≤ A.length ∧ φ 1 = ya ∧ φ 2 = yb ∧ φ 3 = .ptr η.nx 0 ∧ φ 7 = .ptr mp1 0 ∧ φ 9 = .ptr mp2 0 ∧ φ 11 = .int .i64 i ∧ MachAt lo1 hi1 ζ mp1 mb1 z1 p (runS p s0 A i).1 (runS p s0 A i).2 ∧ MachAt lo2 hi2 ζ mp2 mb2 z2 p (runS p s0 A i).1 (runS p s0 A i).2 ∧ ExtB η2.nx η2 ζ ∧ η4.nx ≤ ζ.nx := ⟨_, fun _ _ _ => Iff.rfl⟩
  refine wpN_loop I1 A.length ((hI1 _ _ _).2 ⟨0, rfl, Nat.zero_le _, rfl, rfl, rfl, rfl, rfl, rfl, by rw [runS_0, hs0]; exact M1, by rw [runS_0, hs0]; exact M2, F4', Nat.le_refl _⟩) ?_
  intro m φ ζ hI
  obtain ⟨i, hm, hi, p1, p2, p3, p7, p9, p11, M1, M2, FZ, nz⟩ := (hI1 _ _ _).1 hI
  clear hI
  have lya := (hya.ext F2).len hla
  have ht := runS_t (p := p) (s := s0) (A := A) i hi
  have ht0 : s0.2 = 0 := by rw [hs0]
  have c1 := M1.at_
  have c2 := M2.at_
  by_cases hlt : i < A.length
  · obtain ⟨b, off, cap, ro, row, ye, hb, hbn, hrw⟩ := (hya.ext F2).at hlt
    have RW := (hya.ext F2).2 _ (List.getElem_mem hlt)
    have hb1 := (FZ.2 _ hbn).trans hb
    rw [ye] at p1
    simp -implicitDefEqProofs (disch := omega) only [go_sem, p1, p2, p3, p7, p9, p11, hb1, hrw]
    refine thenN_call (step_go U M1 hf hck (RW.stays FZ (Nat.le_refl _) (by omega) (by omega) FZ.1) ⟨RW.len, RW.lt⟩ (by omega) fun x5 ζ5 M5 _ n5 k5 => ?_)
    have M2 := M2.keep n5 fun b hb hh => k5 b hb (by omega) (by omega)
    have G5 : ExtB η2.nx η2 ζ5 := ⟨Nat.le_trans FZ.1 n5, fun b hb => (k5 b (by omega) (by omega) (by omega)).trans (FZ.2 b hb)⟩
    have hb2 := (G5.2 _ hbn).trans hb
    simp -implicitDefEqProofs (disch := omega) only [go_sem, p1, p2, p3, p7, p9, p11, hb2, hrw]
    refine thenN_call (step_go U M2 hf hck (RW.stays G5 (Nat.le_refl _) (by omega) (by omega) G5.1) ⟨RW.len, RW.lt⟩ (by omega) fun x6 ζ6 M6 _ n6 k6 => ?_)
    have M5 := M5.keep n6 fun b hb hh => k6 b hb (by omega) (by omega)
    have G6 : ExtB η2.nx η2 ζ6 := ⟨Nat.le_trans G5.1 n6, fun b hb => (k6 b (by omega) (by omega) (by omega)).trans (G5.2 b hb)⟩
    simp -implicitDefEqProofs (disch := omega) only [go_sem, p1, p2, p3, p7, p9, p11]
    exact ⟨A.length - (i + 1), by omega, (hI1 _ _ _).2 ⟨i + 1, rfl, by omega, ye ▸ p1, p2, p3, p7, p9, rfl, by rw [runS_s hlt]; exact M5, by rw [runS_s hlt]; exact M6, G6, by omega⟩⟩
  obtain rfl : i = A.length := by omega
  generalize hs : runS p s0 A A.length = s at *
  simp -implicitDefEqProofs (disch := omega) only [go_sem, p1, p2, p3, p7, p9, p11, lya]
  refine thenN_call (copym_then U M1 hf fun mp3 mb3 ζ2 M3 q1 q2 EZ2 => ?_)
  have M1 := M1.keep EZ2.1 fun b hb _ => EZ2.2 b hb
  have M2 := M2.keep EZ2.1 fun b hb _ => EZ2.2 b hb
  have FZ2 : ExtB η2.nx η2 ζ2 := FZ.trans (EZ2.mono FZ.1)
  simp -implicitDefEqProofs (disch := omega) only [go_sem, p1, p2, p3, p7, p9]
  have hml : s.1.length ≤ 1000000 := by rw [M1.len]; have := (check_lens hck).mems; omega
  refine thenN_call (state_then U M1 hml fun vs ζ3 o3 EZ3 => ?_)
  have hs3 := state_str o3
  have M1 := M1.keep EZ3.1 fun b hb _ => EZ3.2 b hb
  have M2 := M2.keep EZ3.1 fun b hb _ => EZ3.2 b hb
  have M3 := M3.keep EZ3.1 fun b hb _ => EZ3.2 b hb
  have FZ3 : ExtB η2.nx η2 ζ3 := FZ2.trans (EZ3.mono FZ2.1)
  have nz3 : ζ.nx ≤ ζ3.nx := Nat.le_trans EZ2.1 EZ3.1
  simp -implicitDefEqProofs (disch := omega) only [go_sem, p1, p2, p3, p7, p9, hs3]
  generalize hS : (stateB s.2 s.1).length = SL at *
  generalize hV : bV (stateB s.2 s.1) = SV at *
  have d3 := M3.at_
  have d3' := M3.mat
  obtain ⟨I2, hI2⟩ : ∃ I : Nat → FN → HN → Prop, ∀ m φ ζ, I m φ ζ ↔ ∃ i, m = B.length - i ∧ i ≤ B.length ∧ φ 2 = yb ∧ φ 3 = .ptr η.nx 0 ∧ φ 7 = .ptr mp1 0 ∧ φ 9 = .ptr mp2 0 ∧ φ 12 = .ptr mp3 0 ∧ φ 13 = .str SL SV ∧ φ 14 = .int .i64 i ∧ MachAt lo1 hi1 ζ mp1 mb1 z1 p s.1 s.2 ∧ MachAt lo2 hi2 ζ mp2 mb2 z2 p (runS p s B i).1 (runS p s B i).2 ∧ MachAt lo1 hi1 ζ mp3 mb3 z1 p (runS p s B i).1 (runS p s B i).2 ∧ ExtB η2.nx η2 ζ ∧ ζ3.nx ≤ ζ.nx := ⟨_, fun _ _ _ => Iff.rfl⟩
  refine wpN_loop I2 B.length ((hI2 _ _ _).2 ⟨0, rfl, Nat.zero_le _, p2, p3, p7, p9, rfl, rfl, rfl, M1, M2, M3, FZ3, Nat.le_refl _⟩) ?_
  clear M1 M2 M3 p1 p2 p3 p7 p9 p11 hI1
  intro m2 φ2 θ hI
  obtain ⟨i, hm2, hi2', p2, p3, p7, p9, p12, p13, p14, M1, M2, M3, FT, nt⟩ := (hI2 _ _ _).1 hI
  clear hI
  have lyb := (hyb.ext F2).len hlb
  have ht2 := runS_t (p := p) (s := s) (A := B) i hi2'
  by_cases hlt2 : i < B.length
  · obtain ⟨b, off, cap, ro, row, ye, hb, hbn, hrw⟩ := (hyb.ext F2).at hlt2
    have RW := (hyb.ext F2).2 _ (List.getElem_mem hlt2)
    have hb1 := (FT.2 _ hbn).trans hb
    rw [ye] at p2
    have hml2 := outS_len (r := B[i].2) hf ⟨M2.len, M2.lt.1⟩ RW.lt
    simp -implicitDefEqProofs (disch := omega) only [go_sem, p2, p3, p7, p9, p12, p13, p14, hb1, hrw]
    refine thenN_call (step_go U M3 hf hck (RW.stays FT (Nat.le_refl _) (by omega) (by omega) FT.1) ⟨RW.len, RW.lt⟩ (by omega) fun x5 ζ5 M5 O5 n5 k5 => ?_)
    have M2 := M2.keep n5 fun b hb hh => k5 b hb (by omega) (by omega)
    have M1 := M1.keep n5 fun b hb hh => k5 b hb (by omega) (by omega)
    have G5 : ExtB η2.nx η2 ζ5 := ⟨Nat.le_trans FT.1 n5, fun b hb => (k5 b (by omega) (by omega) (by omega)).trans (FT.2 b hb)⟩
    have hb2 := (G5.2 _ hbn).trans hb
    simp -implicitDefEqProofs (disch := omega) only [go_sem, p2, p3, p7, p9, p12, p13, p14, hb2, hrw]
    refine thenN_call (step_go U M2 hf hck (RW.stays G5 (Nat.le_refl _) (by omega) (by omega) G5.1) ⟨RW.len, RW.lt⟩ (by omega) fun x6 ζ6 M6 O6 n6 k6 => ?_)
    have M5 := M5.keep n6 fun b hb hh => k6 b hb (by omega) (by omega)
    have M1 := M1.keep n6 fun b hb hh => k6 b hb (by omega) (by omega)
    have O5 := O5.keep n6 fun b h1 h2 => k6 b h2 (by omega) (by omega)
    have G6 : ExtB η2.nx η2 ζ6 := ⟨Nat.le_trans G5.1 n6, fun b hb => (k6 b (by omega) (by omega) (by omega)).trans (G5.2 b hb)⟩
    simp -implicitDefEqProofs (disch := omega) only [go_sem, p2, p3, p7, p9, p12, p13, p14]
    refine thenN_call ⟨_, _, same_call U O5.rd O6.rd hml2 hml2, ?_⟩
    rw [decide_eq_true rfl]
    simp -implicitDefEqProofs (disch := omega) only [go_sem, p2, p3, p7, p9, p12, p13, p14]
    exact ⟨B.length - (i + 1), by omega, (hI2 _ _ _).2 ⟨i + 1, rfl, by omega, ye ▸ p2, p3, p7, p9, p12, p13, rfl, M1, by rw [runS_s hlt2]; exact M6, by rw [runS_s hlt2]; exact M5, G6, by omega⟩⟩
  obtain rfl : i = B.length := by omega
  generalize hu : runS p s B B.length = u at *
  have hul : u.1.length ≤ 1000000 := by rw [M2.len]; have := (check_lens hck).mems; omega
  simp -implicitDefEqProofs (disch := omega) only [go_sem, p2, p3, p7, p9, p12, p13, p14, lyb]
  refine dE_call (state_then U M1 hml fun v1 ζ5 o5 EZ5 => ?_)
  have hs5 := state_str o5
  rw [hS, hV] at hs5
  have M2 := M2.keep EZ5.1 fun b hb _ => EZ5.2 b hb
  have M3 := M3.keep EZ5.1 fun b hb _ => EZ5.2 b hb
  simp -implicitDefEqProofs (disch := omega) only [go_sem, p2, p3, p7, p9, p12, p13, p14, hs5, strEq_rfl]
  refine dE_call (state_then U M3 hul fun v2 ζ6 o6 EZ6 => ?_)
  have hs6 := state_str o6
  have hs56 := state_str (o5.ext EZ6)
  rw [hS, hV] at hs56
  have M2 := M2.keep EZ6.1 fun b hb _ => EZ6.2 b hb
  have M3 := M3.keep EZ6.1 fun b hb _ => EZ6.2 b hb
  simp -implicitDefEqProofs (disch := omega) only [go_sem, p2, p3, p7, p9, p12, p13, p14, hs6, hs56, strEq_rfl]
  refine dE_call (state_then U M2 hul fun v3 ζ7 o7 EZ7 => ?_)
  have hs7 := state_str o7
  have hs67 := state_str (o6.ext EZ7)
  have hs57 := state_str ((o5.ext EZ6).ext EZ7)
  rw [hS, hV] at hs57
  have M2 := M2.keep EZ7.1 fun b hb _ => EZ7.2 b hb
  have M3 := M3.keep EZ7.1 fun b hb _ => EZ7.2 b hb
  have F7 : ExtB η2.nx η2 ζ7 := FT.trans ((EZ5.mono FT.1).trans ((EZ6.mono (Nat.le_trans FT.1 EZ5.1)).trans (EZ7.mono (Nat.le_trans FT.1 (Nat.le_trans EZ5.1 EZ6.1)))))
  simp -implicitDefEqProofs (disch := omega) only [go_sem, p2, p3, p7, p9, p12, p13, p14, hs7, hs67, hs57, hs6, hs56, hs5, strEq_rfl, not_le_f, false_implies, implies_true, true_and, and_true]
  refine thenN_call (reset_then U M3 hf fun v4 ζ8 M4 n8 k8 => ?_)
  have F8 : ExtB η2.nx η2 ζ8 := ⟨Nat.le_trans F7.1 n8, fun b hb => (k8 b (by have := F7.1; omega) (by omega)).trans (F7.2 b hb)⟩
  obtain ⟨hp8, x8⟩ := keep4 ζ8 F8
  simp -implicitDefEqProofs (disch := omega) only [go_sem, p2, p3, p7, p9, p12, p13, p14, x8]
  refine thenN_call (new_then U hp8 hf (fun hno => absurd hck hno) fun _ lo5 hi5 z5 mp5 mb5 ζ9 M5 hlo5 E9 => ?_)
  have M4 := M4.keep E9.1 fun b hb _ => E9.2 b hb
  simp -implicitDefEqProofs (disch := omega) only [go_sem, p12]
  have hl0 : (List.replicate p.mems.length 0).length ≤ 1000000 := by rw [List.length_replicate]; have := (check_lens hck).mems; omega
  refine dE_call (state_then U M4 hl0 fun v6 ζa oa Ea => ?_)
  have hsa := state_str oa
  have M4 := M4.keep Ea.1 fun b hb _ => Ea.2 b hb
  have M5 := M5.keep Ea.1 fun b hb _ => Ea.2 b hb
  simp -implicitDefEqProofs (disch := omega) only [go_sem, p12, hsa, strEq_rfl]
  refine dE_call (state_then U M5 hl0 fun v7 ζb ob Eb => ?_)
  have hsb := state_str ob
  have hsab := state_str (oa.ext Eb)
  have M4 := M4.keep Eb.1 fun b hb _ => Eb.2 b hb
  simp -implicitDefEqProofs (disch := omega) only [go_sem, p12, hsb, hsab, hsa, strEq_rfl, not_le_f, false_implies, implies_true, true_and, and_true]
  refine dE_call ⟨_, _, ticks_call U M4, ?_⟩
  simp -implicitDefEqProofs (disch := omega) only [go_sem, p12, hsb, hsab, hsa, not_le_f, false_implies, implies_true, true_and, and_true]
end Go.Proofs.Ytjljolnhmmbkoaa
namespace Go.Proofs.Ytjljolnhmmbkoaa.machCopies
open Go.ChangeShapes Go.WideShapes Go.ChangeAt Go.RowKit
set_option autoImplicit false
set_option linter.unusedVariables false

theorem own : ownKnob Try.prog.godebug = none := by kernel_rfl
theorem laid : laidOutB Try.prog = true := by kernel_rfl
theorem reads32 : Try.prog.readableRec 32 = true := by kernel_rfl
theorem row32 : 32 < Try.prog.types.size := Nat.le_of_ble_eq_true (by kernel_rfl)
theorem reads55 : Try.prog.readableRec 55 = true := by kernel_rfl
theorem row55 : 55 < Try.prog.types.size := Nat.le_of_ble_eq_true (by kernel_rfl)
set_option maxRecDepth 100000 in
theorem walk {H : Type} {enc : TypeId × Value → H} {W : World} {base : Nat} {v0 : Value} {d0 : DataW H} {ps0 : List MemPlace} {v1 : Value} {d1 : DataW H} {ps1 : List MemPlace} {v2 : Value} {d2 : DataW H} {ps2 : List MemPlace} (o0 : Value.okWide Try.prog W .any base 32 v0) (h0 : DataW.Trod enc Try.prog W 0 (fun _ => true) true 32 v0 d0 ps0) (o1 : Value.okWide Try.prog W .any base 55 v1) (h1 : DataW.Trod enc Try.prog W 0 (fun _ => true) true 55 v1 d1 ps1) (o2 : Value.okWide Try.prog W .any base 55 v2) (h2 : DataW.Trod enc Try.prog W 0 (fun _ => true) true 55 v2 d2 ps2) :
    Calls Try.prog 12 #[v0, v1, v2] W fun e w' => e = .returned (.bool true) ∧ Eng.Kept W w' := by
  obtain ⟨bs, x, zs, hb, vl, ⟨c0, e0, rfl, _, _, ⟨zs0, rfl, rep0⟩, ⟨c1, e1, rfl, _, _, rep1, rep2⟩⟩⟩ := Eng.LayC.done ((Eng.lay_struct 6 plain32 Try.underlying32 o0 h0).app ((Eng.lay_slice 6 plain55 Try.underlying55 o1 h1).app (Eng.lay_slice 6 plain55 Try.underlying55 o2 h2)))
  obtain ⟨z0, p0, rfl, hp0, hr0⟩ := rep_prog (m := 2) rep0
  obtain ⟨y1, l1, rfl, hy1, hl1⟩ := rep_rows (m := 3) rep1
  obtain ⟨y2, l2, rfl, hy2, hl2⟩ := rep_rows (m := 3) rep2
  obtain ⟨r, η', hc, rfl⟩ := copies_spec usual3 wakes3 (Eng.startH Try.prog bs) z0 p0 hp0 hr0 y1 l1 hy1 hl1 y2 l2 hy2 hl2
  refine (Eng.law_calls (us := [v0, v1, v2]) good nat3_ok hc (w := W) (x := x) hb vl).mono fun e w' ⟨u, ρ', he, hu, hk⟩ => ?_
  letI : Eng.Deep := ⟨0, 0⟩
  letI : Eng.Env := Eng.noEnv
  rw [Eng.VR_bool.1 hu] at he
  exact ⟨he, hk⟩

/-! ### The row's step -/
set_option maxRecDepth 100000 in
theorem lifted (os : Os) (started : os.Started) (H : Type) (enc : TypeId × Value → H) :
    ReturnsInHanded {} Try.checked os 12 .any (Rows.machCopiesSpec.pre6 enc Try.prog Try.f12 Rows.machCopiesRow.domain false) (Rows.machCopiesSpec.post enc Try.prog Try.f12 false true false false) := by
  refine returnsInHanded_of_change (C := Try.checked) own started (by kernel_rfl) Try.func12
    (ChangeSpec.witness6 (enc := enc) (C := Try.checked) false ⟨#[], #[.agg #[.slice none 0 0, .slice none 0 0, .slice none 0 0, .slice none 0 0, .slice none 0 0, .slice none 0 0], .slice none 0 0, .slice none 0 0], []⟩ 8 (by kernel_rfl) (by kernel_rfl) (by kernel_rfl) (by kernel_rfl)) ?_
  intro W base args ds gs before hval0 hW hcnd _
  have hval : ∀ (j : Nat) t v, Try.f12.params[j]? = some t → args[j]? = some v → Value.okWide Try.prog W .any base t v := hval0
  have hW' := hW
  obtain ⟨p, q, hA0, hV, rfl, hfz, hnd⟩ := hW
  have hA : DataW.TrodAll enc Try.prog W 0 (fun _ => true) true Try.f12.params.toList args.toList ds p := hA0
  rw [Try.params12] at hA hval
  obtain ⟨v0, vs0, d0, ds0, p0, q0, hargs, rfl, rfl, h0, r0⟩ := trodAll_cons hA
  obtain ⟨v1, vs1, d1, ds1, p1, q1, rfl, rfl, rfl, h1, r1⟩ := trodAll_cons r0
  obtain ⟨v2, vs2, d2, ds2, p2, q2, rfl, rfl, rfl, h2, r2⟩ := trodAll_cons r1
  obtain ⟨rfl, rfl, rfl⟩ := trodAll_nil r2
  obtain rfl : args = #[v0, v1, v2] := by cases args; simp_all
  obtain ⟨rfl, rfl⟩ := trodVars_none hV
  have o0 := hval 0 32 v0 rfl rfl
  have o1 := hval 1 55 v1 rfl rfl
  have o2 := hval 2 55 v2 rfl rfl
  clear hA0 hval0
  simp only [List.append_nil] at hW'
  refine (walk o0 h0 o1 h1 o2 h2).mono fun e W' ⟨he, hg⟩ => ?_
  subst he
  letI : Eng.Deep := ⟨0, 0⟩
  letI : Eng.Env := Eng.noEnv
  exact ⟨_, rfl, Eng.post_of_kept (pa := p0 ++ (p1 ++ (p2))) (pv := []) hW' (fun _ _ => (trodAll_cons_mk (shut_bool Try.underlying4 _) trodAll_mk0))
    (fun sp hsp => by
      have q := (trodAll_cons_mk (Eng.trod_keep (sp := sp) laid reads32 row32 h0 hg fun q hq => hsp q (by simp [hq])) (trodAll_cons_mk (Eng.trod_keep (sp := sp) laid reads55 row55 h1 hg fun q hq => hsp q (by simp [hq])) (trodAll_cons_mk (Eng.trod_keep (sp := sp) laid reads55 row55 h2 hg fun q hq => hsp q (by simp [hq])) trodAll_mk0)))
      simp only [List.append_nil] at q
      rw [Try.params12]; exact q) (fun _ _ => rfl) (by simp) hg⟩

theorem over : Rows.machCopiesRow.holds Try.pinned (OpenSpec.ofChange Rows.machCopiesSpec) :=
  OpenClaim.holds_of_wide 12 Try.f12 rfl rfl rfl rfl rfl rfl rfl ⟨rfl, rfl, rfl, rfl, rfl⟩ rfl rfl rfl rfl rfl (by kernel_rfl) Try.func12 (by kernel_rfl)
    (of_decide_eq_true (by kernel_rfl)) (by unfold Func.isWrapper; first | (rw [if_pos (by decide +kernel)]; kernel_rfl) | (rw [if_neg (by decide +kernel)]; exact ⟨rfl, rfl⟩))
    (fun os started H enc _ => lifted os started H enc)

/-- the statement -/
theorem proved : Rows.MachCopiesSaid :=
  over
#print axioms proved
end Go.Proofs.Ytjljolnhmmbkoaa.machCopies
