/- What is proved: MachRefuses' walk. Conditions: as each theorem says. -/
import Derived.Test.YtjljolnhmmbkoaaMacH
set_option linter.unusedVariables false
set_option linter.unusedSimpArgs false
set_option linter.unusedSectionVars false
namespace Go.Proofs.Ytjljolnhmmbkoaa
open Go.Eng Go.Plain
set_option autoImplicit false
set_option maxRecDepth 100000
variable {nat : ∀ [Deep], Nats} {F : List Nat → List Nat → List Nat}
def okA (ks l : List Nat) (j : Nat) : Bool := !(decide (ks.getD j 0 = 1) && (!decide (l.getD j 0 = 0) && !decide (l.getD j 0 = 1)))
set_option maxHeartbeats 4000000 in
theorem refuses_spec (U : Usual nat) (h22 : Wakes nat) (X : Dig.Ctx nat F) (η : HN) (z : PV) (p : PD) (hp : IsP η z p) (hr : Resd p) (ya : AV) (A : List (AV × List Nat)) (hya : RowsAt η ya A) (hla : A.length ≤ 9223372036854775807) (yb : AV) (B : List Nat) (hyb : RdI .i64 η yb B) (hlb : B.length ≤ 9223372036854775807) (hbt : ∀ n ∈ B, n < 18446744073709551616) :
    ∃ r η', CallN Try.prog nat 13 [.agg z.cells, ya, yb] η r η' ∧ r = .bool true := by
  refine call_of (PT := pl13) Try.func13 rfl (U 13 (by decide)) ok13 rfl ?_
  simp -implicitDefEqProofs (disch := omega) only [go_sem]
  refine thenN_call ⟨_, _, h22 _, ?_⟩
  have E1 : ExtB η.nx η (η.new (.live false z.cells)) := extN (.refl _ _)
  have x1 : (η.new (.live false z.cells)).f η.nx = .live false z.cells := by show (if η.nx = η.nx then _ else _) = _; rw [if_pos rfl]
  have n1 : (η.new (.live false z.cells)).nx = η.nx + 1 := rfl
  generalize η.new (.live false z.cells) = η1 at *
  simp -implicitDefEqProofs (disch := omega) only [go_sem, Bool.not_true, x1]
  refine thenN_call (great30_then U (hp.ext E1) hr fun η2 E2 => ?_)
  have F2 := extT E1 E2
  have g2 := E2.1
  have x2 := (E2.2 _ (by omega)).trans x1
  cases hg : greatF p with
  | true => simp -implicitDefEqProofs (disch := omega) only [go_sem]
  | false =>
  have hf := hr.fine hg
  simp -implicitDefEqProofs (disch := omega) only [go_sem]
  refine thenN_call ⟨_, _, heavy_call U (hya.ext F2) hla, ?_⟩
  cases hA : heavyF A with
  | true => simp -implicitDefEqProofs (disch := omega) only [go_sem]
  | false =>
  have lyb := rdI_len9 (rdI_ext hyb F2) hlb
  by_cases hB : 80 < B.length
  · simp -implicitDefEqProofs (disch := omega) only [go_sem, lyb]
  have lA : A.length ≤ 40 := by unfold heavyF at hA; have := (Bool.or_eq_false_iff.1 hA).1; have := of_decide_eq_false this; omega
  simp -implicitDefEqProofs (disch := omega) only [go_sem, x2, lyb]
  refine thenN_call (new_then U (hp.ext F2) hf (fun hno η3 E3 => ?_) fun hck lo1 hi1 z1 mp1 mb1 η3 M1 hlo1 E3 => ?_)
  · simp -implicitDefEqProofs (disch := omega) only [go_sem]
  have F3 := extT F2 E3
  have g3 := E3.1
  have x3 := (E3.2 _ (by omega)).trans x2
  have a1 := M1.at_
  have b1 := M1.mat
  simp -implicitDefEqProofs (disch := omega) only [go_sem]
  obtain ⟨s0, hs0⟩ : ∃ s : List Nat × Nat, s = (List.replicate p.mems.length 0, 0) := ⟨_, rfl⟩
  obtain ⟨I1, hI1⟩ : ∃ I : Nat → FN → HN → Prop, ∀ m φ ζ, I m φ ζ ↔ ∃ i, m = A.length - i ∧ i ≤ A.length ∧ φ 1 = ya ∧ φ 2 = yb ∧ φ 3 = .ptr η.nx 0 ∧ φ 7 = .ptr mp1 0 ∧ φ 9 = .int .i64 i ∧ MachAt lo1 hi1 ζ mp1 mb1 z1 p (runS p s0 A i).1 (runS p s0 A i).2 ∧ ExtB η2.nx η2 ζ := ⟨_, fun _ _ _ => Iff.rfl⟩
  refine wpN_loop I1 A.length ((hI1 _ _ _).2 ⟨0, rfl, Nat.zero_le _, rfl, rfl, rfl, rfl, rfl, by rw [runS_0, hs0]; exact M1, E3⟩) ?_
  intro m φ ζ hI
  obtain ⟨i, hm, hi, p1, p2, p3, p7, p9, M1, FZ⟩ := (hI1 _ _ _).1 hI
  clear hI
  have lya := (hya.ext F2).len hla
  have ht := runS_t (p := p) (s := s0) (A := A) i hi
  have ht0 : s0.2 = 0 := by rw [hs0]
  have c1 := M1.at_
  by_cases hlt : i < A.length
  · obtain ⟨b, off, cap, ro, row, ye, hb, hbn, hrw⟩ := (hya.ext F2).at hlt
    have RW := (hya.ext F2).2 _ (List.getElem_mem hlt)
    have hb1 := (FZ.2 _ hbn).trans hb
    rw [ye] at p1
    simp -implicitDefEqProofs (disch := omega) only [go_sem, p1, p2, p3, p7, p9, hb1, hrw]
    refine thenN_call (step_go U M1 hf hck (RW.stays FZ (Nat.le_refl _) (by omega) (by omega) FZ.1) ⟨RW.len, RW.lt⟩ (by omega) fun x5 ζ5 M5 _ n5 k5 => ?_)
    have G5 : ExtB η2.nx η2 ζ5 := ⟨Nat.le_trans FZ.1 n5, fun b hb => (k5 b (by omega) (by omega) (by omega)).trans (FZ.2 b hb)⟩
    simp -implicitDefEqProofs (disch := omega) only [go_sem, p1, p2, p3, p7, p9]
    exact ⟨A.length - (i + 1), by omega, (hI1 _ _ _).2 ⟨i + 1, rfl, by omega, ye ▸ p1, p2, p3, p7, rfl, by rw [runS_s hlt]; exact M5, G5⟩⟩
  obtain rfl : i = A.length := by omega
  generalize hs : runS p s0 A A.length = s at *
  have xz := (FZ.2 _ (by omega)).trans x2
  have hpz := (hp.ext F2).ext FZ
  have li := rdI_len hpz.ins hf.ins.1
  have hil := hf.ins.1
  simp -implicitDefEqProofs (disch := omega) only [go_sem, p1, p2, p3, p7, p9, lya, lyb, xz, li]
  have hyz := rdI_ext (rdI_ext hyb F2) FZ
  obtain ⟨I2, hI2⟩ : ∃ I : Nat → FN → HN → Prop, ∀ m φ θ, I m φ θ ↔ θ = ζ ∧ ∃ i f, m = B.length - i ∧ i ≤ B.length ∧ φ 2 = yb ∧ φ 3 = .ptr η.nx 0 ∧ φ 7 = .ptr mp1 0 ∧ φ 10 = .bool f ∧ φ 11 = .int .i64 i ∧ (f = true ↔ B.length = p.ins.length ∧ ∀ j, j < i → okA p.ins B j = true) := ⟨_, fun _ _ _ => Iff.rfl⟩
  refine wpN_loop I2 B.length ((hI2 _ _ _).2 ⟨rfl, 0, decide (B.length = p.ins.length), rfl, Nat.zero_le _, p2, p3, p7, rfl, rfl, ⟨fun h => ⟨of_decide_eq_true h, fun j hj => absurd hj (Nat.not_lt_zero j)⟩, fun h => decide_eq_true h.1⟩⟩) ?_
  intro m2 φ2 θ hI
  obtain ⟨rfl, i, f, hm2, hi2, r2, r3, r7, r10, r11, hff⟩ := (hI2 _ _ _).1 hI
  clear hI
  cases f with
  | true =>
    obtain ⟨he, hall⟩ := hff.1 rfl
    by_cases hlt2 : i < B.length
    · obtain ⟨b, off, cap, ro, row, ye, hb, hbn, hrw⟩ := hpz.ins.at (i := i) (by omega)
      obtain ⟨b2, off2, cap2, ro2, row2, ye2, hb2, hbn2, hrw2⟩ := hyz.at hlt2
      have go : ∀ c : Bool, okA p.ins B i = c → (c = true ↔ B.length = p.ins.length ∧ ∀ j, j < i + 1 → okA p.ins B j = true) := fun c hc => ⟨fun h => ⟨he, fun j hj => by
        by_cases hji : j = i
        · rw [hji, hc, h]
        · exact hall j (by omega)⟩, fun h => by rw [← hc]; exact h.2 i (Nat.lt_succ_self i)⟩
      have xz' : θ.f η.nx = .live false [.slice b off p.ins.length cap, z.z2, z.z3, z.z4, z.z5, z.z6] := by rw [← ye]; exact xz
      unfold okA at go
      rw [getD_get _ _ (show i < p.ins.length by omega), getD_get _ _ hlt2] at go
      rw [ye2] at r2
      by_cases k1 : p.ins[i]'(by omega) = 1
      · by_cases k2 : B[i] = 0
        · rw [k1] at hrw
          rw [k2] at hrw2
          simp -implicitDefEqProofs (disch := omega) only [go_sem, r2, r3, r7, r10, r11, xz', hb, hrw, hb2, hrw2, Bool.not_true, Bool.not_false]
          exact ⟨B.length - (i + 1), by omega, (hI2 _ _ _).2 ⟨rfl, i + 1, true, rfl, by omega, ye2 ▸ r2, r3, r7, rfl, rfl, go true (by simp [k2])⟩⟩
        by_cases k3 : B[i] = 1
        · rw [k1] at hrw
          rw [k3] at hrw2
          simp -implicitDefEqProofs (disch := omega) only [go_sem, r2, r3, r7, r10, r11, xz', hb, hrw, hb2, hrw2, Bool.not_true, Bool.not_false]
          exact ⟨B.length - (i + 1), by omega, (hI2 _ _ _).2 ⟨rfl, i + 1, true, rfl, by omega, ye2 ▸ r2, r3, r7, rfl, rfl, go true (by simp [k3])⟩⟩
        · rw [k1] at hrw
          simp -implicitDefEqProofs (disch := omega) only [go_sem, r2, r3, r7, r10, r11, xz', hb, hrw, hb2, hrw2, Bool.not_true, Bool.not_false]
          exact ⟨B.length - (i + 1), by omega, (hI2 _ _ _).2 ⟨rfl, i + 1, false, rfl, by omega, ye2 ▸ r2, r3, r7, rfl, rfl, go false (by simp [k1, k2, k3])⟩⟩
      · simp -implicitDefEqProofs (disch := omega) only [go_sem, r2, r3, r7, r10, r11, xz', hb, hrw, hb2, hrw2, Bool.not_true, Bool.not_false]
        exact ⟨B.length - (i + 1), by omega, (hI2 _ _ _).2 ⟨rfl, i + 1, true, rfl, by omega, ye2 ▸ r2, r3, r7, rfl, rfl, go true (by simp [k1])⟩⟩
    · simp -implicitDefEqProofs (disch := omega) only [go_sem, r2, r3, r7, r10, r11, lyb]
  | false =>
    have hfit : fitF p.ins B = false := by
      cases hq : fitF p.ins B with
      | false => rfl
      | true =>
        exfalso
        unfold fitF at hq
        obtain ⟨q1, q2⟩ := Bool.and_eq_true_iff.1 hq
        rw [List.all_eq_true] at q2
        exact absurd (hff.2 ⟨(of_decide_eq_true q1).symm, fun j hj => q2 j (List.mem_range.2 (by have := of_decide_eq_true q1; omega))⟩) (by decide)
    have hml : s.1.length ≤ 1000000 := by rw [M1.len]; have := (check_lens hck).mems; omega
    have nz := FZ.1
    have rd : ∀ θ' : HN, ExtB θ.nx θ θ' → Stays θ' mp1 mb1 yb B := fun θ' E θ2 n k => RdR.ext (base := η2.nx) (rdI_ext hyb F2) ⟨by have := E.1; omega, fun b hb => (k b (by have := E.1; omega) (by omega) (by omega)).trans ((E.2 b (by omega)).trans (FZ.2 b hb))⟩
    have dl : (u8s (Dig.shaF F (stateB s.2 s.1))).length = 32 := by rw [u8s_length]; exact Dig.sumF_len _ _ _
    have er : (List.replicate 32 (AV.int .u8 0)).length = 32 := List.length_replicate
    generalize hD : u8s (Dig.shaF F (stateB s.2 s.1)) = D at *
    have eqD : (eqB Try.prog 64).f (.agg D) (.agg D) = some true := by rw [← hD]; exact eq64_rfl _ (Dig.sumF_len _ _ _)
    by_cases hlt2 : i < B.length
    · simp -implicitDefEqProofs (disch := omega) only [go_sem, r2, r3, r7, r10, r11, lyb]
      refine thenN_call (digest_then U X M1 hml fun θ2 E2' => ?_)
      have M2 := M1.keep E2'.1 fun b hb _ => E2'.2 b hb
      rw [hD]
      simp -implicitDefEqProofs (disch := omega) only [go_sem, r2, r3, r7, dl, er]
      have E3' : ExtB θ2.nx θ2 ((θ2.new (.live false (List.replicate 32 (.int .u8 0)))).put θ2.nx (.live false D)) := extP (extN (.refl _ _))
      have x3' : ((θ2.new (.live false (List.replicate 32 (.int .u8 0)))).put θ2.nx (.live false D)).f θ2.nx = .live false D := by show (if θ2.nx = θ2.nx then _ else _) = _; rw [if_pos rfl]
      have n3' : ((θ2.new (.live false (List.replicate 32 (.int .u8 0)))).put θ2.nx (.live false D)).nx = θ2.nx + 1 := rfl
      generalize (θ2.new (.live false (List.replicate 32 (.int .u8 0)))).put θ2.nx (.live false D) = θ3 at *
      have M3 := M2.keep E3'.1 fun b hb _ => E3'.2 b hb
      refine thenN_call ⟨_, _, ticks_call U M3, ?_⟩
      simp -implicitDefEqProofs (disch := omega) only [go_sem, r2, r3, r7]
      refine thenN_call (step_then U M3 hf hck (rd θ3 (extT E2' E3')) ⟨hlb, hbt⟩ (by omega) (fun _ => ?_) fun hyes => by rw [hfit] at hyes; cases hyes)
      simp -implicitDefEqProofs (disch := omega) only [go_sem, r2, r3, r7]
      refine dE_call (digest_then U X M3 hml fun θ4 E4' => ?_)
      have M4 := M3.keep E4'.1 fun b hb _ => E4'.2 b hb
      have x4' := (E4'.2 θ2.nx (by omega)).trans x3'
      rw [hD]
      simp -implicitDefEqProofs (disch := omega) only [go_sem, r2, r3, r7, x4', x3', dl, good64, eqD]
      refine dE_call ⟨_, _, ticks_call U M4, ?_⟩
      simp -implicitDefEqProofs (disch := omega) only [go_sem, r2, r3, r7, x4', x3', dl]
    · simp -implicitDefEqProofs (disch := omega) only [go_sem, r2, r3, r7, r10, r11, lyb]
      refine thenN_call (digest_then U X M1 hml fun θ2 E2' => ?_)
      have M2 := M1.keep E2'.1 fun b hb _ => E2'.2 b hb
      rw [hD]
      simp -implicitDefEqProofs (disch := omega) only [go_sem, r2, r3, r7, dl, er]
      have E3' : ExtB θ2.nx θ2 ((θ2.new (.live false (List.replicate 32 (.int .u8 0)))).put θ2.nx (.live false D)) := extP (extN (.refl _ _))
      have x3' : ((θ2.new (.live false (List.replicate 32 (.int .u8 0)))).put θ2.nx (.live false D)).f θ2.nx = .live false D := by show (if θ2.nx = θ2.nx then _ else _) = _; rw [if_pos rfl]
      have n3' : ((θ2.new (.live false (List.replicate 32 (.int .u8 0)))).put θ2.nx (.live false D)).nx = θ2.nx + 1 := rfl
      generalize (θ2.new (.live false (List.replicate 32 (.int .u8 0)))).put θ2.nx (.live false D) = θ3 at *
      have M3 := M2.keep E3'.1 fun b hb _ => E3'.2 b hb
      refine thenN_call ⟨_, _, ticks_call U M3, ?_⟩
      simp -implicitDefEqProofs (disch := omega) only [go_sem, r2, r3, r7]
      refine thenN_call (step_then U M3 hf hck (rd θ3 (extT E2' E3')) ⟨hlb, hbt⟩ (by omega) (fun _ => ?_) fun hyes => by rw [hfit] at hyes; cases hyes)
      simp -implicitDefEqProofs (disch := omega) only [go_sem, r2, r3, r7]
      refine dE_call (digest_then U X M3 hml fun θ4 E4' => ?_)
      have M4 := M3.keep E4'.1 fun b hb _ => E4'.2 b hb
      have x4' := (E4'.2 θ2.nx (by omega)).trans x3'
      rw [hD]
      simp -implicitDefEqProofs (disch := omega) only [go_sem, r2, r3, r7, x4', x3', dl, good64, eqD]
      refine dE_call ⟨_, _, ticks_call U M4, ?_⟩
      simp -implicitDefEqProofs (disch := omega) only [go_sem, r2, r3, r7, x4', x3', dl]
end Go.Proofs.Ytjljolnhmmbkoaa
