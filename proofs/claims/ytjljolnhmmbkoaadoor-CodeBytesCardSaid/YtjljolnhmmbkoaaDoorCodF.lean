/- What is proved: CodeReads, walked. code.Same; CodeSpoilt, walked. CodeApart, walked. Conditions: as each theorem says. -/
import Derived.Test.YtjljolnhmmbkoaaDoorCodE
import Derived.Test.YtjljolnhmmbkoaaDoorWL
set_option linter.unusedVariables false
set_option linter.unusedSimpArgs false
set_option linter.unusedSectionVars false
namespace Go.Eng
section
variable {P : Program} {C : Eng.Spec} {η : HN} {φ : FN}
/-- behind a region, told apart -/
theorem thenN_J {r : RES} {d : Option Nat} {all l : List Oper} {K : FN → HN → Prop} (J : FN → HN → Prop) (h : thenN C r η d (wpOps P C all l J) φ) (after : ∀ φ η, J φ η → K φ η) : thenN C r η d (wpOps P C all l K) φ :=
  thenN_mono (fun φ η h => wpOps_mono after l φ η h) h
end
end Go.Eng
namespace Go.Proofs.YtjljolnhmmbkoaaDoor
open Go.Eng Go.Plain
set_option autoImplicit false
set_option maxRecDepth 100000
variable {nat : ∀ [Deep], Nats}
@[go_sem] theorem good4 : goodEq Tryd.prog 4 false = true := by kernel_rfl
theorem eq4 {a b : Bool} : (eqB Tryd.prog 4).f (.bool a) (.bool b) = some (beqB a b) := by kernel_rfl
@[go_sem] theorem eq4tt : (eqB Tryd.prog 4).f (.bool true) (.bool true) = some true := eq4
@[go_sem] theorem eq4tf : (eqB Tryd.prog 4).f (.bool true) (.bool false) = some false := eq4
@[go_sem] theorem eq4ft : (eqB Tryd.prog 4).f (.bool false) (.bool true) = some false := eq4
@[go_sem] theorem eq4ff : (eqB Tryd.prog 4).f (.bool false) (.bool false) = some true := eq4
theorem Resd.res {p : PD} (h : Resd p) : Res p :=
  ⟨⟨by have := h.ins.1; omega, h.ins.2⟩, ⟨by have := h.outs.1; omega, h.outs.2⟩, ⟨by have := h.slots.1; omega, h.slots.2⟩, ⟨by have := h.mems.1; omega, h.mems.2⟩, ⟨by have := h.consts.1; omega, h.consts.2⟩, ⟨by have := h.code.1; omega, h.code.2⟩⟩
theorem great_tot {p : PD} (g : greatF p = false) : totN p ≤ 3000 := by
  unfold greatF at g
  have g := of_decide_eq_false g
  unfold totN
  omega
def zP : PD := ⟨[], [], [], [], [], []⟩
def zV : PV := ⟨.nilslice, .nilslice, .nilslice, .nilslice, .nilslice, .nilslice⟩
theorem zIs {η : HN} : IsP η zV zP := ⟨.inl ⟨rfl, .inl rfl⟩, .inl ⟨rfl, .inl rfl⟩, .inl ⟨rfl, .inl rfl⟩, .inl ⟨rfl, .inl rfl⟩, .inl ⟨rfl, .inl rfl⟩, .inl ⟨rfl, .inl rfl⟩⟩
theorem zRes : Res zP := ⟨⟨by decide, fun n h => by cases h⟩, ⟨by decide, fun n h => by cases h⟩, ⟨by decide, fun n h => by cases h⟩, ⟨by decide, fun n h => by cases h⟩, ⟨by decide, fun n h => by cases h⟩, ⟨by decide, fun n h => by cases h⟩⟩
theorem encF_len (p : PD) : (encF p).length = 8 + (tailB p).length := by unfold encF encB low4; simp only [List.length_append]; show 4 + _ + 4 = _; omega
theorem str_enc {η : HN} {base : Nat} {v : AV} {p : PD} (o : OwnL base η v (encF p)) : cvN' Tryd.prog (.slice 5 1 1) .str v η = .ok (.str (encF p).length (bV (encF p))) η := str_of o.rd (fun q => by have hle := encF_len p; rw [q] at hle; simp at hle; omega) (by kernel_rfl)
theorem str_encE {η : HN} {v : AV} {p : PD} (o : RdE η v (encF p)) : cvN' Tryd.prog (.slice 5 1 1) .str v η = .ok (.str (encF p).length (bV (encF p))) η := str_of o.toA (fun q => by have hle := encF_len p; rw [q] at hle; simp at hle; omega) (by kernel_rfl)
set_option maxHeartbeats 2000000 in
/-- the law's end: the sum put behind or not -/
theorem reads_spec (U : Usual nat) (h8 : ∀ [Deep], nat 8 = some trueNat) (η : HN) (y : AV) (l : List Nat) (b : Bool) (hy : RdA 1 η y l.length (u8s l)) (hl : l.length ≤ 9223372036854775807) (hx : ∀ x ∈ l, x < 256) :
    ∃ v η', CallN Tryd.prog nat 5 [y, .bool b] η v η' ∧ v = .bool true := by
  refine call_of (PT := pl5) Tryd.func5 rfl (U 5 (by decide)) ok5 rfl ?_
  have ly : ∀ e w η', lenN (.slice e 1 w) y η' = .ok (.int .i64 l.length) η' := fun e w η' => hy.len hl
  simp -implicitDefEqProofs (disch := omega) only [go_sem]
  refine thenN_call ⟨_, _, callN_true h8, ?_⟩
  by_cases hbig : 3000 < l.length
  · simp -implicitDefEqProofs (disch := omega) only [go_sem, Bool.not_true, ly]
  simp -implicitDefEqProofs (disch := omega) only [go_sem, Bool.not_true, ly]
  have E0 : ExtB η.nx η (η.new (.live false [])) := .new (Nat.le_refl _)
  refine thenN_app (n := 0) (l := []) (base := η.nx) (by decide) (.new0 (η := η) (row := [])) (hy.ext E0) (by omega) E0.1 fun x0 η0 o0 E00 => ?_
  rw [List.nil_append, Nat.zero_add] at o0
  have n00 : η.nx + 1 ≤ η0.nx := E00.1
  have hy0 := hy.ext (E0.trans E00)
  cases b with
  | false =>
    simp -implicitDefEqProofs (disch := omega) only [go_sem]
    obtain ⟨m, hm⟩ : ∃ m, m = l := ⟨_, rfl⟩
    have hml : m.length ≤ 3004 := by rw [hm]; omega
    have hxm : ∀ x ∈ m, x < 256 := by rw [hm]; exact hx
    have o1 : OwnL η.nx η0 x0 m := by rw [hm]; exact o0
    have n1 : η.nx ≤ η0.nx := by omega
    generalize η0 = η1 at *
    generalize x0 = x1 at *
    refine thenN_app (n := 0) (l := []) (base := η1.nx) (by decide) (.new0 (η := η1) (row := [])) (RdA.ext (OwnA.rd o1) (.new (Nat.le_refl _))) (by omega) (Nat.le_succ _) fun x2 η2 o2 E2 => ?_
    rw [List.nil_append, Nat.zero_add] at o2
    have n2 : η1.nx + 1 ≤ η2.nx := E2.1
    have F2 : ExtB η1.nx η1 η2 := (ExtB.new (Nat.le_refl _)).trans E2
    have o12 := OwnA.ext o1 F2
    simp -implicitDefEqProofs (disch := omega) only [go_sem]
    by_cases he : ∃ p, Res p ∧ encF p = m
    · obtain ⟨p0, hp0, e0⟩ := he
      refine thenN_call (dec9_then U (OwnA.rdE o2) hxm (by omega) (fun no => absurd e0 (no p0 hp0)) fun z p hp e ht η3 hP E3 => ?_)
      have fz : ∀ k, (η3.new (.live false nilP)).put η3.nx (.live false z.cells) = k → ExtB η3.nx η3 k ∧ k.f η3.nx = .live false z.cells ∧ k.nx = η3.nx + 1 := fun k hk => by
        subst hk
        exact ⟨extP (extN (.refl _ _)), by show (if η3.nx = η3.nx then _ else _) = _; rw [if_pos rfl], rfl⟩
      simp -implicitDefEqProofs (disch := omega) only [go_sem]
      generalize hk : (η3.new (.live false nilP)).put η3.nx (.live false z.cells) = ζ3
      obtain ⟨G3, f3, m3⟩ := fz ζ3 hk
      have n3 := E3.1
      refine thenN_call (dec20_then U (OwnA.rdE (OwnA.ext (OwnA.ext o12 E3) G3)) hxm (by omega) (fun no => absurd e0 (no p0 hp0)) fun z' p' hp' e' ht' η4 hP' E4 => ?_)
      obtain rfl : p' = p := enc_inj hp' hp (e'.trans e.symm)
      have f4 := (E4.2 η3.nx (by omega)).trans f3
      have n4 := E4.1
      have gz : ∀ k, (η4.new (.live false nilP)).put η4.nx (.live false z'.cells) = k → ExtB η4.nx η4 k ∧ k.f η4.nx = .live false z'.cells ∧ k.nx = η4.nx + 1 := fun k hk => by
        subst hk
        exact ⟨extP (extN (.refl _ _)), by show (if η4.nx = η4.nx then _ else _) = _; rw [if_pos rfl], rfl⟩
      have hP4 := (hP.ext G3).ext E4
      have f4' : ((η4.new (.live false nilP)).put η4.nx (.live false z'.cells)).f η3.nx = .live false z.cells := by show (if η3.nx = η4.nx then _ else if η3.nx = η4.nx then _ else _) = _; rw [if_neg (by omega), if_neg (by omega)]; exact f4
      simp -implicitDefEqProofs (disch := omega) only [go_sem, f4]
      generalize hk2 : (η4.new (.live false nilP)).put η4.nx (.live false z'.cells) = ζ4 at f4' ⊢
      obtain ⟨G4, f5, m4⟩ := gz ζ4 hk2
      refine dE_call (refenc_then U (hP4.ext G4) hp' ht' fun v5 ζ5 o5 E5 => ?_)
      have n5 := E5.1
      have a5 := (E5.2 η3.nx (by omega)).trans f4'
      have b5 := (E5.2 η4.nx (by omega)).trans f5
      have s5 := str_enc o5
      simp -implicitDefEqProofs (disch := omega) only [go_sem, f4', f5, a5, b5, s5]
      refine dE_call (refenc_then U ((hP'.ext G4).ext E5) hp' ht' fun v6 ζ6 o6 E6 => ?_)
      have n6 := E6.1
      have a6 := (E6.2 η3.nx (by omega)).trans a5
      have b6 := (E6.2 η4.nx (by omega)).trans b5
      have s56 := str_enc (OwnA.ext o5 E6)
      have s6 := str_enc o6
      have sd := str_dec (encF_lt hp') (encF_lt hp')
      rw [decide_eq_true rfl] at sd
      simp -implicitDefEqProofs (disch := omega) only [go_sem, f4', f5, a5, b5, s5, a6, b6, s56, s6, sd]
      exact fun h => absurd h (by decide)
    · have no : ∀ p, Res p → encF p ≠ m := fun p hp e => he ⟨p, hp, e⟩
      refine thenN_call (dec9_then U (OwnA.rdE o2) hxm (by omega) (fun _ η3 E3 => ?_) fun z p hp e => absurd e (no p hp))
      have fz : ∀ k, (η3.new (.live false nilP)).put η3.nx (.live false nilP) = k → ExtB η3.nx η3 k ∧ k.f η3.nx = .live false nilP ∧ k.nx = η3.nx + 1 := fun k hk => by
        subst hk
        exact ⟨extP (extN (.refl _ _)), by show (if η3.nx = η3.nx then _ else _) = _; rw [if_pos rfl], rfl⟩
      simp -implicitDefEqProofs (disch := omega) only [go_sem]
      generalize hk : (η3.new (.live false nilP)).put η3.nx (.live false nilP) = ζ3
      obtain ⟨G3, f3, m3⟩ := fz ζ3 hk
      have n3 := E3.1
      refine thenN_call (dec20_then U (OwnA.rdE (OwnA.ext (OwnA.ext o12 E3) G3)) hxm (by omega) (fun _ η4 E4 => ?_) fun z p hp e => absurd e (no p hp))
      have f4 := (E4.2 η3.nx (by omega)).trans f3
      have n4 := E4.1
      have gz : ∀ k, (η4.new (.live false nilP)).put η4.nx (.live false nilP) = k → ExtB η4.nx η4 k ∧ k.f η4.nx = .live false nilP ∧ k.nx = η4.nx + 1 := fun k hk => by
        subst hk
        exact ⟨extP (extN (.refl _ _)), by show (if η4.nx = η4.nx then _ else _) = _; rw [if_pos rfl], rfl⟩
      have f4' : ((η4.new (.live false nilP)).put η4.nx (.live false nilP)).f η3.nx = .live false nilP := by show (if η3.nx = η4.nx then _ else if η3.nx = η4.nx then _ else _) = _; rw [if_neg (by omega), if_neg (by omega)]; exact f4
      simp -implicitDefEqProofs (disch := omega) only [go_sem, f4]
      generalize hk2 : (η4.new (.live false nilP)).put η4.nx (.live false nilP) = ζ4 at f4' ⊢
      obtain ⟨G4, f5, m4⟩ := gz ζ4 hk2
      refine dE_call (refenc_then U (z := zV) (p := zP) zIs zRes (by decide) fun v5 ζ5 o5 E5 => ?_)
      have n5 := E5.1
      have a5 := (E5.2 η3.nx (by omega)).trans f4'
      have b5 := (E5.2 η4.nx (by omega)).trans f5
      have s5 := str_enc o5
      simp -implicitDefEqProofs (disch := omega) only [go_sem, f4', f5, a5, b5, s5]
      refine dE_call (refenc_then U (z := zV) (p := zP) zIs zRes (by decide) fun v6 ζ6 o6 E6 => ?_)
      have n6 := E6.1
      have a6 := (E6.2 η3.nx (by omega)).trans a5
      have b6 := (E6.2 η4.nx (by omega)).trans b5
      have s56 := str_enc (OwnA.ext o5 E6)
      have s6 := str_enc o6
      have sd := str_dec (encF_lt zRes) (encF_lt zRes)
      rw [decide_eq_true rfl] at sd
      simp -implicitDefEqProofs (disch := omega) only [go_sem, f4', f5, a5, b5, s5, a6, b6, s56, s6, sd]
      exact fun h => absurd h (by decide)
  | true =>
    simp -implicitDefEqProofs (disch := omega) only [go_sem]
    refine thenN_call ⟨_, _, refcrc_call U hy0 hx (by omega), ?_⟩
    have hcr := crcF_lt hx
    simp -implicitDefEqProofs (disch := omega) only [go_sem]
    refine thenN_call (low_then U hcr fun v1 ζ1 o1 E1 => ?_)
    simp -implicitDefEqProofs (disch := omega) only [go_sem]
    refine thenN_app (base := η.nx) (by decide) (OwnA.ext o0 E1) o1 (by omega) (by have := E1.1; omega) fun x1 η1 o1' E1' => ?_
    simp -implicitDefEqProofs (disch := omega) only [go_sem]
    obtain ⟨m, hm⟩ : ∃ m, m = l ++ low4 (crcF l) := ⟨_, rfl⟩
    have hml : m.length ≤ 3004 := by rw [hm, List.length_append]; show l.length + 4 ≤ _; omega
    have hxm : ∀ x ∈ m, x < 256 := by
      rw [hm]
      intro x h
      rcases List.mem_append.1 h with h | h
      · exact hx x h
      · unfold low4 at h
        simp only [List.mem_cons, List.mem_nil_iff, or_false] at h
        omega
    have o1 : OwnL η.nx η1 x1 m := by rw [hm]; exact OwnL.of (k := l ++ low4 (crcF l)) (by rw [u8s_app]; exact o1') (by rw [List.length_append]; rfl) rfl
    have n1 : η.nx ≤ η1.nx := by have := E1'.1; have := E1.1; omega
    refine thenN_app (n := 0) (l := []) (base := η1.nx) (by decide) (.new0 (η := η1) (row := [])) (RdA.ext (OwnA.rd o1) (.new (Nat.le_refl _))) (by omega) (Nat.le_succ _) fun x2 η2 o2 E2 => ?_
    rw [List.nil_append, Nat.zero_add] at o2
    have n2 : η1.nx + 1 ≤ η2.nx := E2.1
    have F2 : ExtB η1.nx η1 η2 := (ExtB.new (Nat.le_refl _)).trans E2
    have o12 := OwnA.ext o1 F2
    simp -implicitDefEqProofs (disch := omega) only [go_sem]
    by_cases he : ∃ p, Res p ∧ encF p = m
    · obtain ⟨p0, hp0, e0⟩ := he
      refine thenN_call (dec9_then U (OwnA.rdE o2) hxm (by omega) (fun no => absurd e0 (no p0 hp0)) fun z p hp e ht η3 hP E3 => ?_)
      have fz : ∀ k, (η3.new (.live false nilP)).put η3.nx (.live false z.cells) = k → ExtB η3.nx η3 k ∧ k.f η3.nx = .live false z.cells ∧ k.nx = η3.nx + 1 := fun k hk => by
        subst hk
        exact ⟨extP (extN (.refl _ _)), by show (if η3.nx = η3.nx then _ else _) = _; rw [if_pos rfl], rfl⟩
      simp -implicitDefEqProofs (disch := omega) only [go_sem]
      generalize hk : (η3.new (.live false nilP)).put η3.nx (.live false z.cells) = ζ3
      obtain ⟨G3, f3, m3⟩ := fz ζ3 hk
      have n3 := E3.1
      refine thenN_call (dec20_then U (OwnA.rdE (OwnA.ext (OwnA.ext o12 E3) G3)) hxm (by omega) (fun no => absurd e0 (no p0 hp0)) fun z' p' hp' e' ht' η4 hP' E4 => ?_)
      obtain rfl : p' = p := enc_inj hp' hp (e'.trans e.symm)
      have f4 := (E4.2 η3.nx (by omega)).trans f3
      have n4 := E4.1
      have gz : ∀ k, (η4.new (.live false nilP)).put η4.nx (.live false z'.cells) = k → ExtB η4.nx η4 k ∧ k.f η4.nx = .live false z'.cells ∧ k.nx = η4.nx + 1 := fun k hk => by
        subst hk
        exact ⟨extP (extN (.refl _ _)), by show (if η4.nx = η4.nx then _ else _) = _; rw [if_pos rfl], rfl⟩
      have hP4 := (hP.ext G3).ext E4
      have f4' : ((η4.new (.live false nilP)).put η4.nx (.live false z'.cells)).f η3.nx = .live false z.cells := by show (if η3.nx = η4.nx then _ else if η3.nx = η4.nx then _ else _) = _; rw [if_neg (by omega), if_neg (by omega)]; exact f4
      simp -implicitDefEqProofs (disch := omega) only [go_sem, f4]
      generalize hk2 : (η4.new (.live false nilP)).put η4.nx (.live false z'.cells) = ζ4 at f4' ⊢
      obtain ⟨G4, f5, m4⟩ := gz ζ4 hk2
      refine dE_call (refenc_then U (hP4.ext G4) hp' ht' fun v5 ζ5 o5 E5 => ?_)
      have n5 := E5.1
      have a5 := (E5.2 η3.nx (by omega)).trans f4'
      have b5 := (E5.2 η4.nx (by omega)).trans f5
      have s5 := str_enc o5
      simp -implicitDefEqProofs (disch := omega) only [go_sem, f4', f5, a5, b5, s5]
      refine dE_call (refenc_then U ((hP'.ext G4).ext E5) hp' ht' fun v6 ζ6 o6 E6 => ?_)
      have n6 := E6.1
      have a6 := (E6.2 η3.nx (by omega)).trans a5
      have b6 := (E6.2 η4.nx (by omega)).trans b5
      have s56 := str_enc (OwnA.ext o5 E6)
      have s6 := str_enc o6
      have sd := str_dec (encF_lt hp') (encF_lt hp')
      rw [decide_eq_true rfl] at sd
      simp -implicitDefEqProofs (disch := omega) only [go_sem, f4', f5, a5, b5, s5, a6, b6, s56, s6, sd]
      exact fun h => absurd h (by decide)
    · have no : ∀ p, Res p → encF p ≠ m := fun p hp e => he ⟨p, hp, e⟩
      refine thenN_call (dec9_then U (OwnA.rdE o2) hxm (by omega) (fun _ η3 E3 => ?_) fun z p hp e => absurd e (no p hp))
      have fz : ∀ k, (η3.new (.live false nilP)).put η3.nx (.live false nilP) = k → ExtB η3.nx η3 k ∧ k.f η3.nx = .live false nilP ∧ k.nx = η3.nx + 1 := fun k hk => by
        subst hk
        exact ⟨extP (extN (.refl _ _)), by show (if η3.nx = η3.nx then _ else _) = _; rw [if_pos rfl], rfl⟩
      simp -implicitDefEqProofs (disch := omega) only [go_sem]
      generalize hk : (η3.new (.live false nilP)).put η3.nx (.live false nilP) = ζ3
      obtain ⟨G3, f3, m3⟩ := fz ζ3 hk
      have n3 := E3.1
      refine thenN_call (dec20_then U (OwnA.rdE (OwnA.ext (OwnA.ext o12 E3) G3)) hxm (by omega) (fun _ η4 E4 => ?_) fun z p hp e => absurd e (no p hp))
      have f4 := (E4.2 η3.nx (by omega)).trans f3
      have n4 := E4.1
      have gz : ∀ k, (η4.new (.live false nilP)).put η4.nx (.live false nilP) = k → ExtB η4.nx η4 k ∧ k.f η4.nx = .live false nilP ∧ k.nx = η4.nx + 1 := fun k hk => by
        subst hk
        exact ⟨extP (extN (.refl _ _)), by show (if η4.nx = η4.nx then _ else _) = _; rw [if_pos rfl], rfl⟩
      have f4' : ((η4.new (.live false nilP)).put η4.nx (.live false nilP)).f η3.nx = .live false nilP := by show (if η3.nx = η4.nx then _ else if η3.nx = η4.nx then _ else _) = _; rw [if_neg (by omega), if_neg (by omega)]; exact f4
      simp -implicitDefEqProofs (disch := omega) only [go_sem, f4]
      generalize hk2 : (η4.new (.live false nilP)).put η4.nx (.live false nilP) = ζ4 at f4' ⊢
      obtain ⟨G4, f5, m4⟩ := gz ζ4 hk2
      refine dE_call (refenc_then U (z := zV) (p := zP) zIs zRes (by decide) fun v5 ζ5 o5 E5 => ?_)
      have n5 := E5.1
      have a5 := (E5.2 η3.nx (by omega)).trans f4'
      have b5 := (E5.2 η4.nx (by omega)).trans f5
      have s5 := str_enc o5
      simp -implicitDefEqProofs (disch := omega) only [go_sem, f4', f5, a5, b5, s5]
      refine dE_call (refenc_then U (z := zV) (p := zP) zIs zRes (by decide) fun v6 ζ6 o6 E6 => ?_)
      have n6 := E6.1
      have a6 := (E6.2 η3.nx (by omega)).trans a5
      have b6 := (E6.2 η4.nx (by omega)).trans b5
      have s56 := str_enc (OwnA.ext o5 E6)
      have s6 := str_enc o6
      have sd := str_dec (encF_lt zRes) (encF_lt zRes)
      rw [decide_eq_true rfl] at sd
      simp -implicitDefEqProofs (disch := omega) only [go_sem, f4', f5, a5, b5, s5, a6, b6, s56, s6, sd]
      exact fun h => absurd h (by decide)
end Go.Proofs.YtjljolnhmmbkoaaDoor
namespace Go.Proofs.YtjljolnhmmbkoaaDoor
open Go.Eng Go.Plain
set_option autoImplicit false
set_option maxRecDepth 100000
variable {nat : ∀ [Deep], Nats}
set_option maxHeartbeats 2000000 in
theorem same_then (U : Usual nat) {η : HN} {z z' : PV} {p q : PD} {Q : AV → HN → Prop} (hp : IsP η z p) (hr : Res p) (ht : totN p ≤ 1000000000) (hq : IsP η z' q) (hr' : Res q) (ht' : totN q ≤ 1000000000)
    (h : ∀ η', ExtB η.nx η η' → Q (.bool (decide (encF p = encF q))) η') : ∃ v η', CallN Tryd.prog nat 13 [.agg z.cells, .agg z'.cells] η v η' ∧ Q v η' := by
  refine call_of (PT := pl13) Tryd.func13 rfl (U 13 (by decide)) ok13 rfl ?_
  obtain ⟨ζ0, hζ⟩ : ∃ ζ, ζ = (η.new (.live false z.cells)).new (.live false z'.cells) := ⟨_, rfl⟩
  have E0 : ExtB η.nx η ζ0 := by rw [hζ]; exact extN (extN (.refl _ _))
  have m0 : ζ0.nx = η.nx + 2 := by rw [hζ]; rfl
  have a0 : ζ0.f η.nx = .live false z.cells := by rw [hζ]; show (if η.nx = η.nx + 1 then _ else if η.nx = η.nx then _ else _) = _; rw [if_neg (by omega), if_pos rfl]
  have b0 : ζ0.f (η.nx + 1) = .live false z'.cells := by rw [hζ]; show (if η.nx + 1 = η.nx + 1 then _ else _) = _; rw [if_pos rfl]
  simp -implicitDefEqProofs (disch := omega) only [go_sem, ← hζ, a0, b0]
  refine dE_call (enc_then U (hp.ext E0) hr ht fun v1 ζ1 o1 E1 => ?_)
  have a1 := (E1.2 η.nx (by omega)).trans a0
  have b1 := (E1.2 (η.nx + 1) (by omega)).trans b0
  have n1 := E1.1
  simp -implicitDefEqProofs (disch := omega) only [go_sem, ← hζ, a0, b0, a1, b1]
  refine dE_call (enc_then U ((hq.ext E0).ext E1) hr' ht' fun v2 ζ2 o2 E2 => ?_)
  have a2 := (E2.2 η.nx (by omega)).trans a1
  have b2 := (E2.2 (η.nx + 1) (by omega)).trans b1
  have lp := tail_len p
  have lq := tail_len q
  have lp2 := encF_len p
  have lq2 := encF_len q
  simp -implicitDefEqProofs (disch := omega) only [go_sem, ← hζ, a0, b0, a1, b1, a2, b2]
  refine dE_call ⟨_, _, eq30_call U (o1.ext E2).toA o2.toA (by omega) (by omega), ?_⟩
  simp -implicitDefEqProofs (disch := omega) only [go_sem, ← hζ, a0, b0, a1, b1, a2, b2]
  exact h _ ((E0.trans (E1.mono E0.1)).trans (E2.mono (by omega)))
theorem OwnA.some {s base n : Nat} {η : HN} {x : AV} {l : List AV} (h : OwnA s base η x n l) (hn : 0 < n) : ∃ b, x = .slice b 0 n (.un s) ∧ base ≤ b ∧ b < η.nx ∧ η.f b = .live false l := by
  obtain ⟨h0, ⟨_, h1⟩ | ⟨b, h1, h2, ⟨_, h3, _⟩ | ⟨h3, h4⟩⟩⟩ := h
  · omega
  · omega
  · exact ⟨b, h3, h1, h2, h4⟩
set_option maxHeartbeats 2000000 in
theorem spoilt_spec (U : Usual nat) (h8 : ∀ [Deep], nat 8 = some trueNat) (η : HN) (z : PV) (p : PD) (at' b : Nat) (hp : IsP η z p) (hr : Resd p) (ha : at' < 18446744073709551616) (hb : b < 256) :
    ∃ v η', CallN Tryd.prog nat 6 [.agg z.cells, .int .i64 at', .int .u8 b] η v η' ∧ v = .bool true := by
  refine call_of (PT := pl6) Tryd.func6 rfl (U 6 (by decide)) ok6 rfl ?_
  simp -implicitDefEqProofs (disch := omega) only [go_sem]
  refine thenN_call ⟨_, _, callN_true h8, ?_⟩
  have E1 : ExtB η.nx η (η.new (.live false z.cells)) := extN (.refl _ _)
  have x1 : (η.new (.live false z.cells)).f η.nx = .live false z.cells := by show (if η.nx = η.nx then _ else _) = _; rw [if_pos rfl]
  have n1 : (η.new (.live false z.cells)).nx = η.nx + 1 := rfl
  simp -implicitDefEqProofs (disch := omega) only [go_sem, Bool.not_true]
  refine thenN_call (great_then U (hp.ext E1) hr fun η2 E2 => ?_)
  cases hg : greatF p with
  | true => simp -implicitDefEqProofs (disch := omega) only [go_sem]
  | false =>
  have ht := great_tot hg
  have hres := hr.res
  have x2 := (E2.2 _ (by omega)).trans x1
  have F2 := extT E1 E2
  simp -implicitDefEqProofs (disch := omega) only [go_sem, x2]
  refine thenN_call (enc_then U (hp.ext F2) hres (by omega) fun v3 η3 o3 E3 => ?_)
  have lp := tail_len p
  have le := encF_len p
  have lv : ∀ e w η', lenN (.slice e 1 w) v3 η' = .ok (.int .i64 (encF p).length) η' := fun e w η' => o3.toA.len (by omega)
  by_cases hneg : 9223372036854775807 < at'
  · have hlt : ltN .i64 at' 0 = true := ltN_big hneg (by decide)
    simp -implicitDefEqProofs (disch := omega) only [go_sem, hlt]
  by_cases hge : (encF p).length ≤ at'
  · simp -implicitDefEqProofs (disch := omega) only [go_sem, lv]
  by_cases hb0 : b = 0
  · subst hb0
    simp -implicitDefEqProofs (disch := omega) only [go_sem, lv]
  obtain ⟨yc, ec, rc⟩ := o3.cut0 (e := 5) (w := 1) (hi := at') (by omega) (by omega) (by omega)
  have hxe := encF_lt hres
  simp -implicitDefEqProofs (disch := omega) only [go_sem, lv, ec]
  refine thenN_call (dec9_then U rc (fun x h => hxe x (List.mem_of_mem_take h)) (by rw [List.length_take]; omega) (fun _ η4 E4 => ?_) fun z' p' hp' e' => ?_)
  · have o4 := o3.ext E4
    simp -implicitDefEqProofs (disch := omega) only [go_sem]
    obtain ⟨ζ4, hζ4⟩ : ∃ ζ, ζ = (η4.new (.live false nilP)).put η4.nx (.live false nilP) := ⟨_, rfl⟩
    have E4' : ExtB η4.nx η4 ζ4 := by rw [hζ4]; exact extP (extN (.refl _ _))
    have m4 : ζ4.nx = η4.nx + 1 := by rw [hζ4]; rfl
    rw [← hζ4, ← m4]
    refine thenN_app (n := 0) (l := []) (base := ζ4.nx) (by decide) (.new0 (η := ζ4) (row := [])) ((o4.ext E4').toA.ext (.new (Nat.le_refl _))) (by omega) (Nat.le_succ _) fun x5 η5 o5 E5 => ?_
    rw [List.nil_append, Nat.zero_add] at o5
    obtain ⟨b5, rfl, hb5, hbn5, f5⟩ := OwnA.some o5 (by omega)
    have hlt : at' < (encF p).length := by omega
    have hget : (u8s (encF p))[at']? = some (.int .u8 (encF p)[at']) := by unfold u8s; rw [List.getElem?_map, List.getElem?_eq_getElem hlt]; rfl
    have hxl : (u8s (encF p)).length = (encF p).length := u8s_length _
    simp -implicitDefEqProofs (disch := omega) only [go_sem, f5, hget, hxl]
    have hx0 := hxe _ (List.getElem_mem hlt)
    have hx1 : (encF p)[at'] ^^^ b < 256 := Nat.xor_lt_two_pow (n := 8) hx0 hb
    have hne : (encF p)[at'] ^^^ b ≠ (encF p)[at'] := fun e => hb0 (by
      have := congrArg ((encF p)[at'] ^^^ ·) e
      simp only [← Nat.xor_assoc, Nat.xor_self, Nat.zero_xor] at this
      exact this)
    have hsplit : encF p = (encF p).take at' ++ (encF p)[at'] :: (encF p).drop (at' + 1) := by rw [← List.drop_eq_getElem_cons hlt, List.take_append_drop]
    have hset : (encF p).set at' ((encF p)[at'] ^^^ b) = (encF p).take at' ++ ((encF p)[at'] ^^^ b) :: (encF p).drop (at' + 1) := by
      rw [List.set_eq_take_append_cons_drop, if_pos hlt]
    have hus : (u8s (encF p)).set at' (AV.int .u8 ((encF p)[at'] ^^^ b)) = u8s ((encF p).set at' ((encF p)[at'] ^^^ b)) := by unfold u8s; rw [List.map_set]
    rw [hus]
    have hml : ((encF p).set at' ((encF p)[at'] ^^^ b)).length = (encF p).length := List.length_set
    have hxm : ∀ x ∈ (encF p).set at' ((encF p)[at'] ^^^ b), x < 256 := fun x h => by
      rcases List.mem_or_eq_of_mem_set h with h | h
      · exact hxe x h
      · rw [h]; exact hx1
    generalize hm : (encF p).set at' ((encF p)[at'] ^^^ b) = m at *
    have rE : RdE (η5.put b5 (.live false (u8s m))) (.slice b5 0 (encF p).length (.un 1)) m := .inr ⟨b5, 0, _, _, rfl, ⟨hml.symm, rfl, false, _, by show (if b5 = b5 then _ else _) = _; rw [if_pos rfl], by rw [u8s_length]; omega, by rw [List.drop_zero, List.take_of_length_le (by rw [u8s_length]; omega)]⟩, hbn5⟩
    refine thenN_call (dec9_then U rE hxm (by omega) (fun _ η6 E6 => ?_) fun z' p' hp' e' => ?_)
    · simp -implicitDefEqProofs (disch := omega) only [go_sem]
    · exact absurd (enc_spoil hp' hres (e'.trans hset) hsplit) hne
  · exfalso
    have hd : encF p' ++ (encF p).drop at' = encF p := by rw [e']; exact List.take_append_drop _ _
    have := (enc_prefix hp' hres hd).2
    have := congrArg List.length this
    rw [List.length_drop] at this
    simp at this
    omega
end Go.Proofs.YtjljolnhmmbkoaaDoor
namespace Go.Proofs.YtjljolnhmmbkoaaDoor
open Go.Eng Go.Plain
set_option autoImplicit false
set_option maxRecDepth 100000
variable {nat : ∀ [Deep], Nats}
@[go_sem] theorem good36 : goodEq Tryd.prog 36 false = true := by kernel_rfl
theorem eq36 {a b c d a' b' c' d' : Nat} : (eqB Tryd.prog 36).f (.agg [.int .i64 a, .int .i64 b, .int .i64 c, .int .i64 d]) (.agg [.int .i64 a', .int .i64 b', .int .i64 c', .int .i64 d']) =
    oB (some (Nat.beq a a')) (oB (some (Nat.beq b b')) (oB (some (Nat.beq c c')) (oB (some (Nat.beq d d')) (some true) (some false) none) (some false) none) (some false) none) (some false) none := by kernel_rfl
noncomputable instance : DecidableEq Ins := fun _ _ => Classical.propDecidable _
theorem eqIns (i j : Ins) : (eqB Tryd.prog 36).f (.agg i.cells) (.agg j.cells) = some (decide (i = j)) := by
  obtain ⟨a, b, c, d⟩ := i
  obtain ⟨a', b', c', d'⟩ := j
  unfold Ins.cells
  rw [eq36]
  by_cases h1 : a = a'
  · by_cases h2 : b = b'
    · by_cases h3 : c = c'
      · by_cases h4 : d = d'
        · rw [beq_true.2 h1, beq_true.2 h2, beq_true.2 h3, beq_true.2 h4, decide_eq_true (by rw [h1, h2, h3, h4])]; rfl
        · rw [beq_true.2 h1, beq_true.2 h2, beq_true.2 h3, beq_false.2 h4, decide_eq_false (fun e => h4 (Ins.mk.inj e).2.2.2)]; rfl
      · rw [beq_true.2 h1, beq_true.2 h2, beq_false.2 h3, decide_eq_false (fun e => h3 (Ins.mk.inj e).2.2.1)]; rfl
    · rw [beq_true.2 h1, beq_false.2 h2, decide_eq_false (fun e => h2 (Ins.mk.inj e).2.1)]; rfl
  · rw [beq_false.2 h1, decide_eq_false (fun e => h1 (Ins.mk.inj e).1)]; rfl
set_option maxHeartbeats 4000000 in
theorem apart_spec (U : Usual nat) (h8 : ∀ [Deep], nat 8 = some trueNat) (η : HN) (z : PV) (p : PD) (z' : PV) (q : PD) (hp : IsP η z p) (hr : Resd p) (hq : IsP η z' q) (hr' : Resd q) :
    ∃ v η', CallN Tryd.prog nat 7 [.agg z.cells, .agg z'.cells] η v η' ∧ v = .bool true := by
  refine call_of (PT := pl7) Tryd.func7 rfl (U 7 (by decide)) ok7 rfl ?_
  obtain ⟨ζ0, hζ⟩ : ∃ ζ, ζ = (η.new (.live false z.cells)).new (.live false z'.cells) := ⟨_, rfl⟩
  have E0 : ExtB η.nx η ζ0 := by rw [hζ]; exact extN (extN (.refl _ _))
  have m0 : ζ0.nx = η.nx + 2 := by rw [hζ]; rfl
  have a0 : ζ0.f η.nx = .live false z.cells := by rw [hζ]; show (if η.nx = η.nx + 1 then _ else if η.nx = η.nx then _ else _) = _; rw [if_neg (by omega), if_pos rfl]
  have b0 : ζ0.f (η.nx + 1) = .live false z'.cells := by rw [hζ]; show (if η.nx + 1 = η.nx + 1 then _ else _) = _; rw [if_pos rfl]
  simp -implicitDefEqProofs (disch := omega) only [go_sem, ← hζ]
  refine thenN_call ⟨_, _, callN_true h8, ?_⟩
  simp -implicitDefEqProofs (disch := omega) only [go_sem, Bool.not_true, a0, b0]
  refine thenN_call (great_then U (hp.ext E0) hr fun η1 E1 => ?_)
  cases hg : greatF p with
  | true => simp -implicitDefEqProofs (disch := omega) only [go_sem]
  | false =>
  have a1 := (E1.2 η.nx (by omega)).trans a0
  have b1 := (E1.2 (η.nx + 1) (by omega)).trans b0
  have n1 := E1.1
  have F1 := E0.trans (E1.mono E0.1)
  simp -implicitDefEqProofs (disch := omega) only [go_sem, a1, b1]
  refine thenN_call (great_then U (hq.ext F1) hr' fun η2 E2 => ?_)
  cases hg' : greatF q with
  | true => simp -implicitDefEqProofs (disch := omega) only [go_sem]
  | false =>
  have a2 := (E2.2 η.nx (by omega)).trans a1
  have b2 := (E2.2 (η.nx + 1) (by omega)).trans b1
  have n2 := E2.1
  have F2 := F1.trans (E2.mono F1.1)
  have ht := great_tot hg
  have ht' := great_tot hg'
  have hres := hr.res
  have hres' := hr'.res
  have l1 := rdI_len hp.ins (by unfold totN at ht; omega)
  have l2 := rdI_len hp.outs (by unfold totN at ht; omega)
  have l3 := rdI_len hp.slots (by unfold totN at ht; omega)
  have l4 := rdI_len hp.mems (by unfold totN at ht; omega)
  have l5 := rdI_len hp.consts (by unfold totN at ht; omega)
  have l6 := rdC_len hp.code (by unfold totN at ht; omega)
  have k1 := rdI_len hq.ins (by unfold totN at ht'; omega)
  have k2 := rdI_len hq.outs (by unfold totN at ht'; omega)
  have k3 := rdI_len hq.slots (by unfold totN at ht'; omega)
  have k4 := rdI_len hq.mems (by unfold totN at ht'; omega)
  have k5 := rdI_len hq.consts (by unfold totN at ht'; omega)
  have k6 := rdC_len hq.code (by unfold totN at ht'; omega)
  simp -implicitDefEqProofs (disch := omega) only [go_sem]
  obtain ⟨J, hJ⟩ : ∃ J : FN → HN → Prop, ∀ φ ζ, J φ ζ ↔ ∃ s, φ 2 = .ptr η.nx 0 ∧ φ 3 = .ptr (η.nx + 1) 0 ∧ φ 5 = .bool s ∧ ζ = η2 ∧ (s = true → p.code.length = q.code.length ∧ p.consts.length = q.consts.length) ∧ (p = q → s = true) := ⟨_, fun _ _ => Iff.rfl⟩
  refine thenN_J J ?_ ?_
  · by_cases e1 : p.ins.length = q.ins.length
    · by_cases e2 : p.outs.length = q.outs.length
      · by_cases e3 : p.slots.length = q.slots.length
        · by_cases e4 : p.mems.length = q.mems.length
          · by_cases e5 : p.consts.length = q.consts.length
            · by_cases e6 : p.code.length = q.code.length
              · simp -implicitDefEqProofs (disch := omega) only [go_sem, a2, b2, l1, l2, l3, l4, l5, l6, k1, k2, k3, k4, k5, k6]
                exact (hJ _ _).2 ⟨true, rfl, rfl, rfl, rfl, fun _ => ⟨e6, e5⟩, fun _ => rfl⟩
              · simp -implicitDefEqProofs (disch := omega) only [go_sem, a2, b2, l1, l2, l3, l4, l5, l6, k1, k2, k3, k4, k5, k6]
                exact (hJ _ _).2 ⟨false, rfl, rfl, rfl, rfl, nofun, fun e => absurd (by rw [e]) e6⟩
            · simp -implicitDefEqProofs (disch := omega) only [go_sem, a2, b2, l1, l2, l3, l4, l5, l6, k1, k2, k3, k4, k5, k6]
              exact (hJ _ _).2 ⟨false, rfl, rfl, rfl, rfl, nofun, fun e => absurd (by rw [e]) e5⟩
          · simp -implicitDefEqProofs (disch := omega) only [go_sem, a2, b2, l1, l2, l3, l4, l5, l6, k1, k2, k3, k4, k5, k6]
            exact (hJ _ _).2 ⟨false, rfl, rfl, rfl, rfl, nofun, fun e => absurd (by rw [e]) e4⟩
        · simp -implicitDefEqProofs (disch := omega) only [go_sem, a2, b2, l1, l2, l3, l4, l5, l6, k1, k2, k3, k4, k5, k6]
          exact (hJ _ _).2 ⟨false, rfl, rfl, rfl, rfl, nofun, fun e => absurd (by rw [e]) e3⟩
      · simp -implicitDefEqProofs (disch := omega) only [go_sem, a2, b2, l1, l2, l3, l4, l5, l6, k1, k2, k3, k4, k5, k6]
        exact (hJ _ _).2 ⟨false, rfl, rfl, rfl, rfl, nofun, fun e => absurd (by rw [e]) e2⟩
    · simp -implicitDefEqProofs (disch := omega) only [go_sem, a2, b2, l1, l2, l3, l4, l5, l6, k1, k2, k3, k4, k5, k6]
      exact (hJ _ _).2 ⟨false, rfl, rfl, rfl, rfl, nofun, fun e => absurd (by rw [e]) e1⟩
  intro φ ζ hj
  obtain ⟨s, p2, p3, p5, rfl, hs1, hs2⟩ := (hJ _ _).1 hj
  clear hJ hj
  simp -implicitDefEqProofs (disch := omega) only [go_sem]
  obtain ⟨J, hJ⟩ : ∃ J : FN → HN → Prop, ∀ φ ζ', J φ ζ' ↔ ∃ s, φ 2 = .ptr η.nx 0 ∧ φ 3 = .ptr (η.nx + 1) 0 ∧ φ 5 = .bool s ∧ ζ' = ζ ∧ (s = true → p.code.length = q.code.length ∧ p.consts.length = q.consts.length) ∧ (p = q → s = true) := ⟨_, fun _ _ => Iff.rfl⟩
  obtain ⟨I, hI⟩ : ∃ I : Nat → FN → HN → Prop, ∀ m φ ζ', I m φ ζ' ↔ ∃ i, m = p.code.length - i ∧ φ 6 = .int .i64 i ∧ i ≤ p.code.length ∧ J φ ζ' := ⟨_, fun _ _ _ => Iff.rfl⟩
  refine wpN_loopJ 0 I J p.code.length ((hI _ _ _).2 ⟨0, rfl, rfl, Nat.zero_le _, (hJ _ _).2 ⟨s, p2, p3, p5, rfl, hs1, hs2⟩⟩) ?_ ?_
  · clear p2 p3 p5 hs1 hs2
    intro m φ ζ' hi
    obtain ⟨i, hm, p6, hi, hj⟩ := (hI _ _ _).1 hi
    obtain ⟨s, p2, p3, p5, rfl, hs1, hs2⟩ := (hJ _ _).1 hj
    have hcl : p.code.length ≤ 3000 := by unfold totN at ht; omega
    by_cases hlt : i < p.code.length
    · cases s with
      | false =>
        simp -implicitDefEqProofs (disch := omega) only [go_sem, a2, l6, p2, p3, p5, p6]
        exact (hJ _ _).2 ⟨false, p2, p3, p5, rfl, hs1, hs2⟩
      | true =>
        obtain ⟨hl1, hl2⟩ := hs1 rfl
        obtain ⟨bc, off, cap, ro, row, ze, hb, hbn, hrl, hrr⟩ := rdC_at (RdR.ext (base := η.nx) hp.code F2) hlt
        obtain ⟨bc', off', cap', ro', row', ze', hb', hbn', hrl', hrr'⟩ := rdC_at (RdR.ext (base := η.nx) hq.code F2) (show i < q.code.length by omega)
        have hcl1 : (Ins.cells p.code[i]).length = 4 := rfl
        have hcl2 : (Ins.cells q.code[i]).length = 4 := rfl
        have hee := eqIns p.code[i] q.code[i]
        simp -implicitDefEqProofs (disch := omega) only [go_sem, a2, b2, l6, p2, p3, p5, p6, ze, ze', hb, hb', hrr, hrr', hee]
        exact ⟨p.code.length - (i + 1), by omega, (hI _ _ _).2 ⟨i + 1, rfl, rfl, by omega, (hJ _ _).2 ⟨decide (p.code[i] = q.code[i]), p2, p3, rfl, rfl, fun _ => ⟨hl1, hl2⟩, fun e => decide_eq_true (by subst e; rfl)⟩⟩⟩
    · obtain rfl : i = p.code.length := by omega
      simp -implicitDefEqProofs (disch := omega) only [go_sem, a2, l6, p2, p3, p5, p6]
      exact (hJ _ _).2 ⟨s, p2, p3, p5, rfl, hs1, hs2⟩
  clear p2 p3 p5 hs1 hs2
  intro φ ζ' hj
  obtain ⟨s, p2, p3, p5, rfl, hs1, hs2⟩ := (hJ _ _).1 hj
  clear hI hJ hj
  simp -implicitDefEqProofs (disch := omega) only [go_sem]
  obtain ⟨J, hJ⟩ : ∃ J : FN → HN → Prop, ∀ φ ζ, J φ ζ ↔ ∃ s, φ 2 = .ptr η.nx 0 ∧ φ 3 = .ptr (η.nx + 1) 0 ∧ φ 5 = .bool s ∧ ζ = ζ' ∧ (s = true → p.code.length = q.code.length ∧ p.consts.length = q.consts.length) ∧ (p = q → s = true) := ⟨_, fun _ _ => Iff.rfl⟩
  obtain ⟨I, hI⟩ : ∃ I : Nat → FN → HN → Prop, ∀ m φ ζ, I m φ ζ ↔ ∃ i, m = p.consts.length - i ∧ φ 7 = .int .i64 i ∧ i ≤ p.consts.length ∧ J φ ζ := ⟨_, fun _ _ _ => Iff.rfl⟩
  refine wpN_loopJ 2 I J p.consts.length ((hI _ _ _).2 ⟨0, rfl, rfl, Nat.zero_le _, (hJ _ _).2 ⟨s, p2, p3, p5, rfl, hs1, hs2⟩⟩) ?_ ?_
  · clear p2 p3 p5 hs1 hs2
    intro m φ ζ hi
    obtain ⟨i, hm, p7, hi, hj⟩ := (hI _ _ _).1 hi
    obtain ⟨s, p2, p3, p5, rfl, hs1, hs2⟩ := (hJ _ _).1 hj
    have hcl : p.consts.length ≤ 3000 := by unfold totN at ht; omega
    by_cases hlt : i < p.consts.length
    · cases s with
      | false =>
        simp -implicitDefEqProofs (disch := omega) only [go_sem, a2, l5, p2, p3, p5, p7]
        exact (hJ _ _).2 ⟨false, p2, p3, p5, rfl, hs1, hs2⟩
      | true =>
        obtain ⟨hl1, hl2⟩ := hs1 rfl
        obtain ⟨bc, off, cap, ro, row, ze, hb, hbn, hrr⟩ := (ext_rdI hp.consts F2).at hlt
        obtain ⟨bc', off', cap', ro', row', ze', hb', hbn', hrr'⟩ := (ext_rdI hq.consts F2).at (show i < q.consts.length by omega)
        simp -implicitDefEqProofs (disch := omega) only [go_sem, a2, b2, l5, p2, p3, p5, p7, ze, ze', hb, hb', hrr, hrr']
        exact ⟨p.consts.length - (i + 1), by omega, (hI _ _ _).2 ⟨i + 1, rfl, rfl, by omega, (hJ _ _).2 ⟨decide (p.consts[i] = q.consts[i]), p2, p3, rfl, rfl, fun _ => ⟨hl1, hl2⟩, fun e => decide_eq_true (by subst e; rfl)⟩⟩⟩
    · obtain rfl : i = p.consts.length := by omega
      simp -implicitDefEqProofs (disch := omega) only [go_sem, a2, l5, p2, p3, p5, p7]
      exact (hJ _ _).2 ⟨s, p2, p3, p5, rfl, hs1, hs2⟩
  clear p2 p3 p5 hs1 hs2
  intro φ ζ hj
  obtain ⟨s, p2, p3, p5, rfl, hs1, hs2⟩ := (hJ _ _).1 hj
  clear hI hJ hj
  simp -implicitDefEqProofs (disch := omega) only [go_sem, p2, p3, p5, a2, b2]
  refine dE_call (enc_then U (hp.ext F2) hres (by omega) fun v1 ζ1 o1 G1 => ?_)
  have a3 := (G1.2 η.nx (by omega)).trans a2
  have b3 := (G1.2 (η.nx + 1) (by omega)).trans b2
  have g1 := G1.1
  have s1 := str_encE o1
  simp -implicitDefEqProofs (disch := omega) only [go_sem, p2, p3, p5, a2, b2, a3, b3, s1]
  refine dE_call (enc_then U ((hq.ext F2).ext G1) hres' (by omega) fun v2 ζ2 o2 G2 => ?_)
  have a4 := (G2.2 η.nx (by omega)).trans a3
  have b4 := (G2.2 (η.nx + 1) (by omega)).trans b3
  have g2 := G2.1
  have s12 := str_encE (o1.ext G2)
  have s2 := str_encE o2
  have F4 := (F2.trans (G1.mono F2.1)).trans (G2.mono (by omega))
  have sd := str_dec (encF_lt hres) (encF_lt hres')
  simp -implicitDefEqProofs (disch := omega) only [go_sem, p2, p3, p5, a2, b2, a3, b3, a4, b4, s1, s12, s2, sd]
  refine ⟨fun h => absurd h (by decide), thenN_call (same_then U (hp.ext F4) hres (by omega) (hq.ext F4) hres' (by omega) fun η5 E5 => ?_)⟩
  by_cases hpq : p = q
  · have he : encF p = encF q := by rw [hpq]
    have hs := hs2 hpq
    subst hs
    rw [decide_eq_true he]
    simp -implicitDefEqProofs (disch := omega) only [go_sem, p2, p3, p5]
  · have he : ¬ encF p = encF q := fun e => hpq (enc_inj hres hres' e)
    rw [decide_eq_false he] at *
    cases s with
    | true => simp -implicitDefEqProofs (disch := omega) only [go_sem, p2, p3, p5]
    | false => simp -implicitDefEqProofs (disch := omega) only [go_sem, p2, p3, p5, sd]
end Go.Proofs.YtjljolnhmmbkoaaDoor
