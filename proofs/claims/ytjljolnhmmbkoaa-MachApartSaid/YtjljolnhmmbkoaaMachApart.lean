/- What is proved: MachApart's walk. MachApart gives true, whatever its arguments and the world. Conditions: as each theorem says. -/
import Derived.Test.YtjljolnhmmbkoaaMacH
import Derived.Test.YtjljolnhmmbkoaaPlain
import Derived.Test.YtjljolnhmmbkoaaWak2
import Derived.Test.YtjljolnhmmbkoaaMacG
import Derived.Test.YtjljolnhmmbkoaaWJ
import Derived.Test.YtjljolnhmmbkoaaRows
import Derived.WalkKit
import Derived.ProofKit
import Derived.OpenShut
set_option linter.unusedVariables false
set_option linter.unusedSimpArgs false
set_option linter.unusedSectionVars false
namespace Go.Proofs.Ytjljolnhmmbkoaa
open Go.Eng Go.Plain
set_option autoImplicit false
set_option maxRecDepth 100000
variable {nat : ∀ [Deep], Nats} {F : List Nat → List Nat → List Nat}
theorem rd_part {η : HN} {b n : Nat} {cap : Cp} {ro : Bool} {row : List AV} {l : List Nat} (hb : η.f b = .live ro row) (hbn : b < η.nx) (hn : n = l.length) (hl : l.length ≤ row.length) (h : row.take l.length = l.map (.int .i64)) : RdI .i64 η (.slice b 0 n cap) l := by
  subst hn
  exact RdA.toI (.inr ⟨b, 0, cap, ro, row, rfl, hb, hbn, by omega, by rw [List.length_map]; omega, by rw [List.drop_zero, Nat.mul_one]; exact h⟩)
set_option maxHeartbeats 2000000 in
theorem add_then (U : Usual nat) {η : HN} {Q : AV → HN → Prop} (h : ∀ (z : PV) η', IsP η' z addP → ExtB η.nx η η' → Q (.agg z.cells) η') : ∃ v η', CallN Try.prog nat 24 [] η v η' ∧ Q v η' := by
  refine call_of (PT := pl24) Try.func24 rfl (U 24 (by decide)) ok24 rfl ?_
  have hr5 : repL 5 [AV.int .i64 0, .int .i64 0, .int .i64 0, .int .i64 0] = [.int .i64 0, .int .i64 0, .int .i64 0, .int .i64 0, .int .i64 0, .int .i64 0, .int .i64 0, .int .i64 0, .int .i64 0, .int .i64 0, .int .i64 0, .int .i64 0, .int .i64 0, .int .i64 0, .int .i64 0, .int .i64 0, .int .i64 0, .int .i64 0, .int .i64 0, .int .i64 0] := rfl
  simp -implicitDefEqProofs (disch := omega) only [go_sem, hr5, setsL_step, Nat.reduceMul, Nat.reduceAdd]
  generalize hX : BN.live false [AV.slice (η.nx + 1) 0 2 (Cp.kn 2), AV.slice (η.nx + 1) 0 1 (Cp.kn 2), AV.slice (η.nx + 1) 0 2 (Cp.kn 2), AV.slice (η.nx + 1) 0 1 (Cp.kn 2), AV.nilslice, AV.slice (η.nx + 1 + 1 + 11) 0 5 (Cp.kn 5)] = Xr
  refine h ⟨.slice (η.nx + 1) 0 2 (.kn 2), .slice (η.nx + 1) 0 1 (.kn 2), .slice (η.nx + 1) 0 2 (.kn 2), .slice (η.nx + 1) 0 1 (.kn 2), .nilslice, .slice (η.nx + 1 + 1 + 11) 0 5 (.kn 5)⟩ _ ⟨?_, ?_, ?_, ?_, .inl ⟨rfl, .inl rfl⟩, ?_⟩ ?_
  · refine rd_part (ro := false) (row := [.int .i64 2, .int .i64 2]) ?_ ?_ rfl (by decide) rfl
    · simp -implicitDefEqProofs (disch := omega) only [go_sem]
    · show _ < η.nx + 1 + 1 + 14; omega
  · refine rd_part (ro := false) (row := [.int .i64 2, .int .i64 2]) ?_ ?_ rfl (by decide) rfl
    · simp -implicitDefEqProofs (disch := omega) only [go_sem]
    · show _ < η.nx + 1 + 1 + 14; omega
  · refine rd_part (ro := false) (row := [.int .i64 2, .int .i64 2]) ?_ ?_ rfl (by decide) rfl
    · simp -implicitDefEqProofs (disch := omega) only [go_sem]
    · show _ < η.nx + 1 + 1 + 14; omega
  · refine rd_part (ro := false) (row := [.int .i64 2, .int .i64 2]) ?_ ?_ rfl (by decide) rfl
    · simp -implicitDefEqProofs (disch := omega) only [go_sem]
    · show _ < η.nx + 1 + 1 + 14; omega
  · refine RdR.blk [Ins.cells ⟨4, 0, 0, 0⟩, Ins.cells ⟨4, 1, 1, 0⟩, Ins.cells ⟨8, 0, 0, 1⟩, Ins.cells ⟨5, 0, 0, 0⟩, Ins.cells ⟨3, 0, 0, 0⟩] (ro := false) ?_ ?_ (by simp [Ins.cells])
    · simp -implicitDefEqProofs (disch := omega) only [go_sem]; rfl
    · show _ < η.nx + 1 + 1 + 14; omega
  · refine ⟨by show _ ≤ η.nx + 1 + 1 + 14; omega, fun b hb => ?_⟩
    simp -implicitDefEqProofs (disch := omega) only [go_sem]
theorem add_fine : Fine addP := by
  refine ⟨⟨by decide, by decide⟩, ⟨by decide, by decide⟩, ⟨by decide, by decide⟩, ⟨by decide, by decide⟩, ⟨by decide, by decide⟩, ⟨by decide, by decide⟩⟩
theorem strEq_state {t u a b : Nat} (ht : t < 18446744073709551616) (hu : u < 18446744073709551616) (ha : a < 18446744073709551616) (hb : b < 18446744073709551616) : strEq (stateB t [a]).length (bV (stateB t [a])) (stateB u [b]).length (bV (stateB u [b])) = decide (a = b ∧ t = u) := by
  have lt : ∀ (t a : Nat), t < 18446744073709551616 → a < 18446744073709551616 → ∀ x ∈ stateB t [a], x < 256 := fun t a ht ha x hx => by
    unfold stateB at hx
    rw [List.mem_append, List.mem_append] at hx
    rcases hx with (hx | hx) | hx
    · exact uv_lt ht x hx
    · exact uv_lt (show [a].length < 18446744073709551616 by simp) x hx
    · exact nums_lt (by simpa using ha) x hx
  by_cases h : a = b ∧ t = u
  · obtain ⟨rfl, rfl⟩ := h
    rw [strEq_rfl, decide_eq_true ⟨rfl, rfl⟩]
  · rw [decide_eq_false h, strEq_at]
    cases hq : decide ((stateB t [a]).length = (stateB u [b]).length) && decide (bV (stateB t [a]) = bV (stateB u [b])) with
    | false => rfl
    | true =>
      exfalso
      obtain ⟨q1, q2⟩ := Bool.and_eq_true_iff.1 hq
      have e := bV_inj (of_decide_eq_true q1) (lt t a ht ha) (lt u b hu hb) (of_decide_eq_true q2)
      obtain ⟨e1, e2⟩ := state_inj ht hu (by simp) (by simp) (by simpa using ha) (by simpa using hb) e
      exact h ⟨by simpa using e2, e1⟩
set_option maxHeartbeats 4000000 in
theorem apart_spec (U : Usual nat) (h22 : Wakes nat) (X : Dig.Ctx nat F) (η : HN) (ya : AV) (A : List Nat) (hya : RdI .i64 η ya A) (hla : A.length ≤ 9223372036854775807) (hat : ∀ n ∈ A, n < 18446744073709551616) (yb : AV) (B : List Nat) (hyb : RdI .i64 η yb B) (hlb : B.length ≤ 9223372036854775807) (hbt : ∀ n ∈ B, n < 18446744073709551616) :
    ∃ r η', CallN Try.prog nat 14 [ya, yb] η r η' ∧ r = .bool true := by
  refine call_of (PT := pl14) Try.func14 rfl (U 14 (by decide)) ok14 rfl ?_
  simp -implicitDefEqProofs (disch := omega) only [go_sem]
  refine thenN_call ⟨_, _, h22 _, ?_⟩
  have lya := rdI_len9 hya hla
  have lyb := rdI_len9 hyb hlb
  by_cases s1 : 30 < A.length
  · simp -implicitDefEqProofs (disch := omega) only [go_sem, Bool.not_true, lya]
  by_cases s2 : 30 < B.length
  · simp -implicitDefEqProofs (disch := omega) only [go_sem, Bool.not_true, lya, lyb]
  simp -implicitDefEqProofs (disch := omega) only [go_sem, Bool.not_true, lya, lyb]
  refine thenN_call (add_then U fun z0 η1 P1 E1 => ?_)
  simp -implicitDefEqProofs (disch := omega) only [go_sem]
  refine thenN_call (new_then U P1 add_fine (fun h => absurd add_check h) fun _ lo1 hi1 z1 mp1 mb1 η2 M1 hlo1 E2 => ?_)
  simp -implicitDefEqProofs (disch := omega) only [go_sem]
  refine thenN_call (add_then U fun z3 η3 P3 E3 => ?_)
  simp -implicitDefEqProofs (disch := omega) only [go_sem]
  refine thenN_call (new_then U P3 add_fine (fun h => absurd add_check h) fun _ lo2 hi2 z2 mp2 mb2 η4 M2 hlo2 E4 => ?_)
  have F2 := extT E1 E2
  have F3 := extT F2 E3
  have F4 := extT F3 E4
  have g1 := E1.1
  have g2 := E2.1
  have g3 := E3.1
  have g4 := E4.1
  have a1 := M1.at_
  have b1 := M1.mat
  have a2 := M2.at_
  have b2 := M2.mat
  have M1 := M1.keep (η' := η4) (Nat.le_trans g3 g4) fun b hb _ => (E4.2 b (by omega)).trans (E3.2 b hb)
  have M1 : MachAt lo1 hi1 η4 mp1 mb1 z1 addP [0] 0 := M1
  have M2 : MachAt lo2 hi2 η4 mp2 mb2 z2 addP [0] 0 := M2
  simp -implicitDefEqProofs (disch := omega) only [go_sem]
  obtain ⟨I1, hI1⟩ : ∃ I : Nat → FN → HN → Prop, ∀ m φ ζ, I m φ ζ ↔ ∃ i s, m = A.length - i ∧ i ≤ A.length ∧ φ 0 = ya ∧ φ 1 = yb ∧ φ 5 = .ptr mp1 0 ∧ φ 7 = .ptr mp2 0 ∧ φ 9 = .int .i64 s ∧ φ 10 = .int .i64 0 ∧ φ 11 = .int .i64 i ∧ s < 18446744073709551616 ∧ MachAt lo1 hi1 ζ mp1 mb1 z1 addP [s] i ∧ MachAt lo2 hi2 ζ mp2 mb2 z2 addP [0] 0 ∧ ExtB η.nx η ζ ∧ η4.nx ≤ ζ.nx := ⟨_, fun _ _ _ => Iff.rfl⟩
  refine wpN_loop I1 A.length ((hI1 _ _ _).2 ⟨0, 0, rfl, Nat.zero_le _, rfl, rfl, rfl, rfl, rfl, rfl, rfl, by decide, M1, M2, F4, Nat.le_refl _⟩) ?_
  clear M1 M2
  intro m φ ζ hI
  obtain ⟨i, s, hm, hi, p0, p1, p5, p7, p9, p10, pi, hs, M1, M2, FZ, nz⟩ := (hI1 _ _ _).1 hI
  clear hI
  by_cases hlt : i < A.length
  · obtain ⟨b, off, cap, ro, row, ye, hb, hbn, hrw⟩ := hya.at hlt
    have hb1 := (FZ.2 _ hbn).trans hb
    have hat1 := hat _ (List.getElem_mem hlt)
    rw [ye] at p0
    simp -implicitDefEqProofs (disch := omega) only [go_sem, p0, p1, p5, p7, p9, p10, pi, hb1, hrw]
    have E5 : ExtB ζ.nx ζ (ζ.new (.live false [.int .i64 A[i], .int .i64 1])) := extN (.refl _ _)
    have x5 : (ζ.new (.live false [.int .i64 A[i], .int .i64 1])).f ζ.nx = .live false [.int .i64 A[i], .int .i64 1] := by show (if ζ.nx = ζ.nx then _ else _) = _; rw [if_pos rfl]
    have n5 : (ζ.new (.live false [.int .i64 A[i], .int .i64 1])).nx = ζ.nx + 1 := rfl
    generalize ζ.new (.live false [.int .i64 A[i], .int .i64 1]) = ζ5 at *
    have M1 := M1.keep E5.1 fun b hb _ => E5.2 b hb
    have M2 := M2.keep E5.1 fun b hb _ => E5.2 b hb
    refine thenN_call (step_then U (inn := [A[i], 1]) M1 add_fine add_check (fun η6 n6 k6 => RdR.blk [[.int .i64 A[i]], [.int .i64 1]] (ro := false) ((k6 ζ.nx (by omega) (by omega) (by omega)).trans x5) (by omega) (by simp)) ⟨by simp, fun n hn => by rcases List.mem_cons.1 hn with rfl | hn; exact hat1; rcases List.mem_cons.1 hn with rfl | hn; decide; cases hn⟩ (by omega) (fun h => by rw [add_fit] at h; cases h) fun _ x6 ζ6 M6 _ n6 k6 => ?_)
    rw [add_step] at M6
    have M7 := M2.keep n6 fun b hb hh => k6 b hb (by omega) (by omega)
    have G6 : ExtB η.nx η ζ6 := ⟨by have := FZ.1; omega, fun b hb => (k6 b (by omega) (by omega) (by omega)).trans ((E5.2 b (by omega)).trans (FZ.2 b hb))⟩
    have hb2 := (G6.2 _ hbn).trans hb
    simp -implicitDefEqProofs (disch := omega) only [go_sem, p0, p1, p5, p7, p9, p10, pi, hb2, hrw]
    exact ⟨A.length - (i + 1), by omega, (hI1 _ _ _).2 ⟨i + 1, (A[i] + 1) % 18446744073709551616, rfl, by omega, ye ▸ p0, p1, p5, p7, rfl, p10, rfl, Nat.mod_lt _ (by decide), M6, M7, G6, by omega⟩⟩
  obtain rfl : i = A.length := by omega
  simp -implicitDefEqProofs (disch := omega) only [go_sem, p0, p1, p5, p7, p9, p10, pi, lya]
  clear hlt hI1
  obtain ⟨s0, hs0⟩ : ∃ s0, s0 = s := ⟨_, rfl⟩
  rw [← hs0] at p9 M1 hs
  obtain ⟨I2, hI2⟩ : ∃ I : Nat → FN → HN → Prop, ∀ m φ ζ, I m φ ζ ↔ ∃ i s, m = B.length - i ∧ i ≤ B.length ∧ φ 0 = ya ∧ φ 1 = yb ∧ φ 5 = .ptr mp1 0 ∧ φ 7 = .ptr mp2 0 ∧ φ 9 = .int .i64 s0 ∧ φ 10 = .int .i64 s ∧ φ 12 = .int .i64 i ∧ s < 18446744073709551616 ∧ MachAt lo1 hi1 ζ mp1 mb1 z1 addP [s0] A.length ∧ MachAt lo2 hi2 ζ mp2 mb2 z2 addP [s] i ∧ ExtB η.nx η ζ ∧ η4.nx ≤ ζ.nx := ⟨_, fun _ _ _ => Iff.rfl⟩
  refine wpN_loop I2 B.length ((hI2 _ _ _).2 ⟨0, 0, rfl, Nat.zero_le _, p0, p1, p5, p7, p9, p10, rfl, by decide, M1, M2, FZ, nz⟩) ?_
  clear M1 M2 p0 p1 p5 p7 p9 p10 pi FZ nz hs0
  intro m2 φ2 θ hI
  obtain ⟨i, u, hm2, hi2, p0, p1, p5, p7, p9, p10, pi, hu, M1, M2, FZ, nz⟩ := (hI2 _ _ _).1 hI
  clear hI
  by_cases hlt : i < B.length
  · obtain ⟨b, off, cap, ro, row, ye, hb, hbn, hrw⟩ := hyb.at hlt
    have hb1 := (FZ.2 _ hbn).trans hb
    have hat1 := hbt _ (List.getElem_mem hlt)
    rw [ye] at p1
    simp -implicitDefEqProofs (disch := omega) only [go_sem, p0, p1, p5, p7, p9, p10, pi, hb1, hrw]
    have E5 : ExtB θ.nx θ (θ.new (.live false [.int .i64 B[i], .int .i64 1])) := extN (.refl _ _)
    have x5 : (θ.new (.live false [.int .i64 B[i], .int .i64 1])).f θ.nx = .live false [.int .i64 B[i], .int .i64 1] := by show (if θ.nx = θ.nx then _ else _) = _; rw [if_pos rfl]
    have n5 : (θ.new (.live false [.int .i64 B[i], .int .i64 1])).nx = θ.nx + 1 := rfl
    generalize θ.new (.live false [.int .i64 B[i], .int .i64 1]) = ζ5 at *
    have M1 := M1.keep E5.1 fun b hb _ => E5.2 b hb
    have M2 := M2.keep E5.1 fun b hb _ => E5.2 b hb
    refine thenN_call (step_then U (inn := [B[i], 1]) M2 add_fine add_check (fun η6 n6 k6 => RdR.blk [[.int .i64 B[i]], [.int .i64 1]] (ro := false) ((k6 θ.nx (by omega) (by omega) (by omega)).trans x5) (by omega) (by simp)) ⟨by simp, fun n hn => by rcases List.mem_cons.1 hn with rfl | hn; exact hat1; rcases List.mem_cons.1 hn with rfl | hn; decide; cases hn⟩ (by omega) (fun h => by rw [add_fit] at h; cases h) fun _ x6 ζ6 M6 _ n6 k6 => ?_)
    rw [add_step] at M6
    have M7 := M1.keep n6 fun b hb hh => k6 b hb (by omega) (by omega)
    have G6 : ExtB η.nx η ζ6 := ⟨by have := FZ.1; omega, fun b hb => (k6 b (by omega) (by omega) (by omega)).trans ((E5.2 b (by omega)).trans (FZ.2 b hb))⟩
    have hb2 := (G6.2 _ hbn).trans hb
    simp -implicitDefEqProofs (disch := omega) only [go_sem, p0, p1, p5, p7, p9, p10, pi, hb2, hrw]
    exact ⟨B.length - (i + 1), by omega, (hI2 _ _ _).2 ⟨i + 1, (B[i] + 1) % 18446744073709551616, rfl, by omega, p0, ye ▸ p1, p5, p7, p9, rfl, rfl, Nat.mod_lt _ (by decide), M7, M6, G6, by omega⟩⟩
  obtain rfl : i = B.length := by omega
  have hst := strEq_state (t := A.length) (u := B.length) (by omega) (by omega) hs hu
  have hm1 : [s0].length ≤ 1000000 := by simp
  have hm2 : [u].length ≤ 1000000 := by simp
  by_cases hsu : s0 = u
  · by_cases hlen : A.length = B.length
    · rw [decide_eq_true ⟨hsu, hlen⟩] at hst
      simp -implicitDefEqProofs (disch := omega) only [go_sem, p0, p1, p5, p7, p9, p10, pi, lya, lyb]
      refine dE_call (state_then U M1 hm1 fun v1 θ1 o1 EZ1 => ?_)
      have hs1 := state_str o1
      have M1 := M1.keep EZ1.1 fun b hb _ => EZ1.2 b hb
      have M2 := M2.keep EZ1.1 fun b hb _ => EZ1.2 b hb
      simp -implicitDefEqProofs (disch := omega) only [go_sem, p0, p1, p5, p7, p9, p10, pi, hs1]
      refine dE_call (state_then U M2 hm2 fun v2 θ2 o2 EZ2 => ?_)
      have hs2 := state_str o2
      have hs12 := state_str (o1.ext EZ2)
      have M1 := M1.keep EZ2.1 fun b hb _ => EZ2.2 b hb
      have M2 := M2.keep EZ2.1 fun b hb _ => EZ2.2 b hb
      simp -implicitDefEqProofs (disch := omega) only [go_sem, p0, p1, p5, p7, p9, p10, pi, hs1, hs2, hs12, hst, Bool.not_true, Bool.not_false, not_le_f, false_implies, implies_true, true_and, and_true]
      refine dE_call (digest_then U X M1 hm1 fun θ3 EZ3 => ?_)
      have M2 := M2.keep EZ3.1 fun b hb _ => EZ3.2 b hb
      simp -implicitDefEqProofs (disch := omega) only [go_sem, p0, p1, p5, p7]
      refine dE_call (digest_then U X M2 hm2 fun θ4 EZ4 => ?_)
      have hs13 := state_str ((o1.ext EZ2).ext EZ3)
      have hs14 := state_str (((o1.ext EZ2).ext EZ3).ext EZ4)
      have hs23 := state_str (o2.ext EZ3)
      have hs24 := state_str ((o2.ext EZ3).ext EZ4)
      have eqD : (eqB Try.prog 64).f (.agg (u8s (Dig.shaF F (stateB A.length [s0])))) (.agg (u8s (Dig.shaF F (stateB B.length [u])))) = some true := by rw [hsu, hlen]; exact eq64_rfl _ (Dig.sumF_len _ _ _)
      simp -implicitDefEqProofs (disch := omega) only [go_sem, p0, p1, p5, p7, hs1, hs2, hs12, hs13, hs14, hs23, hs24, good64, eqD, not_le_f, false_implies, implies_true, true_and, and_true]
    · rw [decide_eq_false (fun h => hlen h.2)] at hst
      simp -implicitDefEqProofs (disch := omega) only [go_sem, p0, p1, p5, p7, p9, p10, pi, lya, lyb]
      refine dE_call (state_then U M1 hm1 fun v1 θ1 o1 EZ1 => ?_)
      have hs1 := state_str o1
      have M1 := M1.keep EZ1.1 fun b hb _ => EZ1.2 b hb
      have M2 := M2.keep EZ1.1 fun b hb _ => EZ1.2 b hb
      simp -implicitDefEqProofs (disch := omega) only [go_sem, p0, p1, p5, p7, p9, p10, pi, hs1]
      refine dE_call (state_then U M2 hm2 fun v2 θ2 o2 EZ2 => ?_)
      have hs2 := state_str o2
      have hs12 := state_str (o1.ext EZ2)
      have M1 := M1.keep EZ2.1 fun b hb _ => EZ2.2 b hb
      have M2 := M2.keep EZ2.1 fun b hb _ => EZ2.2 b hb
      simp -implicitDefEqProofs (disch := omega) only [go_sem, p0, p1, p5, p7, p9, p10, pi, hs1, hs2, hs12, hst, Bool.not_true, Bool.not_false, not_le_f, false_implies, implies_true, true_and, and_true]
  · rw [decide_eq_false (fun h => hsu h.1)] at hst
    simp -implicitDefEqProofs (disch := omega) only [go_sem, p0, p1, p5, p7, p9, p10, pi, lya, lyb]
    refine dE_call (state_then U M1 hm1 fun v1 θ1 o1 EZ1 => ?_)
    have hs1 := state_str o1
    have M1 := M1.keep EZ1.1 fun b hb _ => EZ1.2 b hb
    have M2 := M2.keep EZ1.1 fun b hb _ => EZ1.2 b hb
    simp -implicitDefEqProofs (disch := omega) only [go_sem, p0, p1, p5, p7, p9, p10, pi, hs1]
    refine dE_call (state_then U M2 hm2 fun v2 θ2 o2 EZ2 => ?_)
    have hs2 := state_str o2
    have hs12 := state_str (o1.ext EZ2)
    have M1 := M1.keep EZ2.1 fun b hb _ => EZ2.2 b hb
    have M2 := M2.keep EZ2.1 fun b hb _ => EZ2.2 b hb
    simp -implicitDefEqProofs (disch := omega) only [go_sem, p0, p1, p5, p7, p9, p10, pi, hs1, hs2, hs12, hst, Bool.not_true, Bool.not_false, not_le_f, false_implies, implies_true, true_and, and_true]
end Go.Proofs.Ytjljolnhmmbkoaa
namespace Go.Proofs.Ytjljolnhmmbkoaa.machApart
open Go.ChangeShapes Go.WideShapes Go.ChangeAt Go.RowKit
set_option autoImplicit false
set_option linter.unusedVariables false

theorem own : ownKnob Try.prog.godebug = none := by kernel_rfl
theorem laid : laidOutB Try.prog = true := by kernel_rfl
theorem reads29 : Try.prog.readableRec 29 = true := by kernel_rfl
theorem row29 : 29 < Try.prog.types.size := Nat.le_of_ble_eq_true (by kernel_rfl)
set_option maxRecDepth 100000 in
theorem walk {H : Type} {enc : TypeId × Value → H} {W : World} {base : Nat} {v0 : Value} {d0 : DataW H} {ps0 : List MemPlace} {v1 : Value} {d1 : DataW H} {ps1 : List MemPlace} (o0 : Value.okWide Try.prog W .any base 29 v0) (h0 : DataW.Trod enc Try.prog W 0 (fun _ => true) true 29 v0 d0 ps0) (o1 : Value.okWide Try.prog W .any base 29 v1) (h1 : DataW.Trod enc Try.prog W 0 (fun _ => true) true 29 v1 d1 ps1) :
    Calls Try.prog 14 #[v0, v1] W fun e w' => e = .returned (.bool true) ∧ Eng.Kept W w' := by
  obtain ⟨bs, x, zs, hb, vl, ⟨c0, e0, rfl, _, _, rep0, rep1⟩⟩ := Eng.LayC.done ((Eng.lay_slice 6 plain29 Try.underlying29 o0 h0).app (Eng.lay_slice 6 plain29 Try.underlying29 o1 h1))
  obtain ⟨y0, l0, rfl, hy0, hl0, ht0⟩ := rep_ints (m := 4) Try.underlying29 Try.underlying2 cells2 rep0
  obtain ⟨y1, l1, rfl, hy1, hl1, ht1⟩ := rep_ints (m := 4) Try.underlying29 Try.underlying2 cells2 rep1
  obtain ⟨r, η', hc, rfl⟩ := apart_spec usual4 wakes4 dig4 (Eng.startH Try.prog bs) y0 l0 hy0 hl0 ht0 y1 l1 hy1 hl1 ht1
  refine (Eng.law_calls (us := [v0, v1]) good nat4_ok hc (w := W) (x := x) hb vl).mono fun e w' ⟨u, ρ', he, hu, hk⟩ => ?_
  letI : Eng.Deep := ⟨0, 0⟩
  letI : Eng.Env := Eng.noEnv
  rw [Eng.VR_bool.1 hu] at he
  exact ⟨he, hk⟩

/-! ### The row's step -/
set_option maxRecDepth 100000 in
theorem lifted (os : Os) (started : os.Started) (H : Type) (enc : TypeId × Value → H) :
    ReturnsInHanded {} Try.checked os 14 .any (Rows.machApartSpec.pre6 enc Try.prog Try.f14 Rows.machApartRow.domain false) (Rows.machApartSpec.post enc Try.prog Try.f14 false true false false) := by
  refine returnsInHanded_of_change (C := Try.checked) own started (by kernel_rfl) Try.func14
    (ChangeSpec.witness6 (enc := enc) (C := Try.checked) false ⟨#[], #[.slice none 0 0, .slice none 0 0], []⟩ 8 (by kernel_rfl) (by kernel_rfl) (by kernel_rfl) (by kernel_rfl)) ?_
  intro W base args ds gs before hval0 hW hcnd _
  have hval : ∀ (j : Nat) t v, Try.f14.params[j]? = some t → args[j]? = some v → Value.okWide Try.prog W .any base t v := hval0
  have hW' := hW
  obtain ⟨p, q, hA0, hV, rfl, hfz, hnd⟩ := hW
  have hA : DataW.TrodAll enc Try.prog W 0 (fun _ => true) true Try.f14.params.toList args.toList ds p := hA0
  rw [Try.params14] at hA hval
  obtain ⟨v0, vs0, d0, ds0, p0, q0, hargs, rfl, rfl, h0, r0⟩ := trodAll_cons hA
  obtain ⟨v1, vs1, d1, ds1, p1, q1, rfl, rfl, rfl, h1, r1⟩ := trodAll_cons r0
  obtain ⟨rfl, rfl, rfl⟩ := trodAll_nil r1
  obtain rfl : args = #[v0, v1] := by cases args; simp_all
  obtain ⟨rfl, rfl⟩ := trodVars_none hV
  have o0 := hval 0 29 v0 rfl rfl
  have o1 := hval 1 29 v1 rfl rfl
  clear hA0 hval0
  simp only [List.append_nil] at hW'
  refine (walk o0 h0 o1 h1).mono fun e W' ⟨he, hg⟩ => ?_
  subst he
  letI : Eng.Deep := ⟨0, 0⟩
  letI : Eng.Env := Eng.noEnv
  exact ⟨_, rfl, Eng.post_of_kept (pa := p0 ++ (p1)) (pv := []) hW' (fun _ _ => (trodAll_cons_mk (shut_bool Try.underlying4 _) trodAll_mk0))
    (fun sp hsp => by
      have q := (trodAll_cons_mk (Eng.trod_keep (sp := sp) laid reads29 row29 h0 hg fun q hq => hsp q (by simp [hq])) (trodAll_cons_mk (Eng.trod_keep (sp := sp) laid reads29 row29 h1 hg fun q hq => hsp q (by simp [hq])) trodAll_mk0))
      simp only [List.append_nil] at q
      rw [Try.params14]; exact q) (fun _ _ => rfl) (by simp) hg⟩

theorem over : Rows.machApartRow.holds Try.pinned (OpenSpec.ofChange Rows.machApartSpec) :=
  OpenClaim.holds_of_wide 14 Try.f14 rfl rfl rfl rfl rfl rfl rfl ⟨rfl, rfl, rfl, rfl, rfl⟩ rfl rfl rfl rfl rfl (by kernel_rfl) Try.func14 (by kernel_rfl)
    (of_decide_eq_true (by kernel_rfl)) (by unfold Func.isWrapper; first | (rw [if_pos (by decide +kernel)]; kernel_rfl) | (rw [if_neg (by decide +kernel)]; exact ⟨rfl, rfl⟩))
    (fun os started H enc _ => lifted os started H enc)

/-- the statement -/
theorem proved : Rows.MachApartSaid :=
  over
#print axioms proved
end Go.Proofs.Ytjljolnhmmbkoaa.machApart
