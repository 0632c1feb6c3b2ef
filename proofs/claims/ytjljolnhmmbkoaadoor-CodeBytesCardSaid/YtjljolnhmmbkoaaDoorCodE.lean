/- What is proved: a program, read by the document. Conditions: as each theorem says. -/
import Derived.Test.YtjljolnhmmbkoaaDoorCodD
set_option linter.unusedVariables false
set_option linter.unusedSimpArgs false
set_option linter.unusedSectionVars false
namespace Go.Proofs.YtjljolnhmmbkoaaDoor
open Go.Eng Go.Plain
set_option autoImplicit false
set_option maxRecDepth 100000
variable {nat : ∀ [Deep], Nats}
theorem rdCB_t (n : Nat) (l : List Nat) : rdCB n l true = ([], l, true) := by cases n <;> rfl
theorem encF_lt {p : PD} (h : Res p) : ∀ x ∈ encF p, x < 256 := by
  intro x hx
  unfold encF at hx
  rcases List.mem_append.1 hx with hx | hx
  · exact encB_lt h x hx
  · unfold low4 at hx
    simp only [List.mem_cons, List.mem_nil_iff, or_false] at hx
    omega
theorem str_dec {l k : List Nat} (hl : ∀ x ∈ l, x < 256) (hk : ∀ x ∈ k, x < 256) : strEq l.length (bV l) k.length (bV k) = decide (l = k) := by
  unfold strEq
  by_cases hlen : l.length = k.length
  · rw [beq_true.2 hlen, ifB_true]
    by_cases e : l = k
    · rw [decide_eq_true e, beq_true.2 (by rw [e])]
    · rw [decide_eq_false e, beq_false.2 fun q => e (bV_inj hlen hl hk q)]
  · rw [beq_false.2 hlen, ifB_false, decide_eq_false fun e => hlen (by rw [e])]
set_option maxHeartbeats 8000000 in
theorem dec20_then (U : Usual nat) {η : HN} {y : AV} {l : List Nat} {Q : AV → HN → Prop} (hy : RdE η y l) (hx : ∀ x ∈ l, x < 256) (hl : l.length ≤ 10000000)
    (hno : (∀ p, Res p → encF p ≠ l) → ∀ η', ExtB η.nx η η' → Q (.tup [.agg nilP, .bool false]) η')
    (hyes : ∀ z p, Res p → encF p = l → totN p ≤ 1000000000 → ∀ η', IsP η' z p → ExtB η.nx η η' → Q (.tup [.agg z.cells, .bool true]) η') :
    ∃ v η', CallN Tryd.prog nat 20 [y] η v η' ∧ Q v η' := by
  refine call_of (PT := pl20) Tryd.func20 rfl (U 20 (by decide)) ok20 rfl ?_
  have ly : ∀ e w η, lenN (.slice e 1 w) y η = .ok (.int .i64 l.length) η := fun e w η => hy.toA.len (by omega)
  have el : ∀ p, (encF p).length = 8 + (tailB p).length := fun p => by unfold encF encB low4; simp only [List.length_append]; show 4 + _ + 4 = _; omega
  have f0 : ∀ y, (η.new y).f η.nx = y := fun y => by show (if η.nx = η.nx then _ else _) = _; rw [if_pos rfl]
  by_cases h8 : l.length < 8
  · have no : ∀ p, Res p → encF p ≠ l := fun p _ e => by have := el p; rw [e] at this; omega
    have fin := hno no _ (extP (c := η.nx) (y := .live false nilP) (extN (y := .live false nilP) (.refl _ _)))
    simp -implicitDefEqProofs (disch := omega) only [go_sem, ly]
    exact fin
  obtain ⟨y4, e4, r4⟩ := hy.cut0 (e := 5) (w := 1) (hi := 4) (by omega) (by omega) (by omega)
  have hl4 : (l.take 4).length = 4 := by rw [List.length_take]; omega
  have s4 : ∀ e w η', ExtB η.nx η η' → isU8D (tdOf Tryd.prog e) = true → cvN' Tryd.prog (.slice e 1 w) .str y4 η' = .ok (.str (l.take 4).length (bV (l.take 4))) η' := fun e w η' E hP => str_of (r4.ext E).toA (fun q => by rw [q] at hl4; simp at hl4) hP
  have s4' := s4 5 1 _ (extN (y := .live false nilP) (.refl _ _)) (by kernel_rfl)
  have sm := mark_eq (l := l) (by omega) hx
  by_cases hmk : ¬ l.take 4 = markB
  · rw [decide_eq_false hmk] at sm
    have sm' : strEq (l.take 4).length (bV (l.take 4)) 4 1346720851 = false := sm
    simp -implicitDefEqProofs (disch := omega) only [go_sem, ly, e4, s4', sm']
    refine hno (fun p hp e => hmk ?_) _ (extP (c := η.nx) (y := .live false nilP) (extN (y := .live false nilP) (.refl _ _)))
    rw [← e]
    exact (mid_enc p).2
  have hmk : l.take 4 = markB := Decidable.not_not.1 hmk
  rw [decide_eq_true hmk] at sm
  have sm' : strEq (l.take 4).length (bV (l.take 4)) 4 1346720851 = true := sm
  obtain ⟨ym, em, rm⟩ := hy.cut (e := 5) (w := 1) (lo := 4) (hi := l.length - 4) (by omega) (by omega) (by omega) (by omega)
  simp -implicitDefEqProofs (disch := omega) only [go_sem, ly, e4, s4', sm', em]
  obtain ⟨md, hmd⟩ : ∃ md, md = (l.take (l.length - 4)).drop 4 := ⟨_, rfl⟩
  rw [← hmd] at rm
  have hxm : ∀ x ∈ md, x < 256 := fun x h => hx x (by rw [hmd] at h; exact List.mem_of_mem_take (List.mem_of_mem_drop h))
  have hlm : md.length = l.length - 8 := by rw [hmd, List.length_drop, List.length_take]; omega
  refine thenN_app (n := 0) (l := []) (base := η.nx + 1) (by decide) (.new0 (η := η.new (.live false nilP)) (row := [])) (rm.ext (extN (extN (.refl _ _)))).toA (by omega) (Nat.le_succ _) fun x0 η0 o0 E00 => ?_
  rw [List.nil_append, Nat.zero_add] at o0
  have n00 : η.nx + 2 ≤ η0.nx := E00.1
  have cc0 := OwnA.cells1 o0
  simp -implicitDefEqProofs (disch := omega) only [go_sem, cc0]
  obtain ⟨rp, hrp⟩ : ∃ rp, rp = η0.nx := ⟨_, rfl⟩
  obtain ⟨W, hW⟩ : ∃ W, W = η0.nx + 1 := ⟨_, rfl⟩
  obtain ⟨ξ0, hξ⟩ : ∃ ξ, ξ = ((η0.new (.live false [x0, .bool false])).new (.live false nilP)).put (η0.nx + 1) (.live false nilP) := ⟨_, rfl⟩
  rw [← hξ, ← hW, ← hrp]
  have xn0 : ξ0.nx = η0.nx + 2 := by rw [hξ]; rfl
  have kx0 : ∀ b, b < η0.nx → ξ0.f b = η0.f b := fun b hb => by rw [hξ]; show (if b = η0.nx + 1 then _ else if b = η0.nx + 1 then _ else if b = η0.nx then _ else _) = _; rw [if_neg (by omega), if_neg (by omega), if_neg (by omega)]
  have E0 : ExtB η.nx η ξ0 := ⟨by omega, fun b hb => (kx0 b (by omega)).trans ((E00.2 b (by omega)).trans (by show (if b = η.nx + 1 then _ else if b = η.nx then _ else _) = _; rw [if_neg (by omega), if_neg (by omega)]))⟩
  have t0 : ξ0.f η.nx = .live false nilP := (kx0 _ (by omega)).trans ((E00.2 _ (by omega)).trans (by show (if η.nx = η.nx + 1 then _ else if η.nx = η.nx then _ else _) = _; rw [if_neg (by omega), if_pos rfl]))
  have w0 : ξ0.f W = .live false nilP := by rw [hξ, hW]; show (if η0.nx + 1 = η0.nx + 1 then _ else _) = _; rw [if_pos rfl]
  have R0 : RdrAt ξ0 rp md false := by
    refine ⟨x0, by rw [hξ, hrp]; show (if η0.nx = η0.nx + 1 then _ else if η0.nx = η0.nx + 1 then _ else if η0.nx = η0.nx then _ else _) = _; rw [if_neg (by omega), if_neg (by omega), if_pos rfl], by omega, ?_⟩
    obtain ⟨h0, ⟨rfl, h1⟩ | ⟨b, h1, h2, ⟨rfl, h3, _⟩ | ⟨rfl, h3⟩⟩⟩ := o0
    · exact .inl ⟨List.eq_nil_of_length_eq_zero h1, .inl rfl⟩
    · exact .inl ⟨List.eq_nil_of_length_eq_zero h3, .inr ⟨_, _, _, rfl⟩⟩
    · exact .inr ⟨b, 0, _, _, rfl, ⟨rfl, rfl, false, u8s md, (kx0 b h2).trans h3, by have := u8s_length md; omega, by rw [List.drop_zero, ← u8s_length md, List.take_length]⟩, by omega, by omega⟩
  have hlm8 : md.length ≤ 1000000000 := by omega
  have hdec : decB md = decB md := rfl
  conv at hdec => rhs; unfold decB
  dsimp only at hdec
  clear hξ kx0 o0 E00
  obtain ⟨Lx1, Ll1, Ln1, lt1⟩ := lstB_rest md false
  refine thenN_call (kinds46_then U R0 hxm (by omega) fun v1 ζ1 o1 R1 F1 => ?_)
  have n1 := F1.1
  have g1 := (F1.2 W (by omega) (by omega)).trans w0
  have s1 := (F1.2 η.nx (by omega) (by omega)).trans t0
  have x1 : ∀ x ∈ (lstB md false).2.1, x < 256 := fun x h => hxm x (Lx1 x h)
  generalize ha1 : lstB md false = a1 at *
  have q1 := OwnA.cells1 o1
  simp -implicitDefEqProofs (disch := omega) only [go_sem, g1, q1]
  obtain ⟨ξ1, hξ1⟩ : ∃ ξ, ξ = ζ1.put W (.live false [v1, .nilslice, .nilslice, .nilslice, .nilslice, .nilslice]) := ⟨_, rfl⟩
  have xn1 : ξ1.nx = ζ1.nx := by rw [hξ1]; rfl
  have kx1 : ∀ b, b ≠ W → ξ1.f b = ζ1.f b := fun b hb => by rw [hξ1]; show (if b = W then _ else _) = _; rw [if_neg hb]
  have w1 : ξ1.f W = .live false [v1, .nilslice, .nilslice, .nilslice, .nilslice, .nilslice] := by rw [hξ1]; show (if W = W then _ else _) = _; rw [if_pos rfl]
  have R1 := R1.keepB (Nat.le_of_eq xn1.symm) fun b hb => kx1 b (by omega)
  have t1 := (kx1 η.nx (by omega)).trans s1
  have S1 : KpS rp W ζ1 ξ1 := ⟨Nat.le_of_eq xn1.symm, fun b _ _ hw => kx1 b hw⟩
  rw [← hξ1]
  clear hξ1 kx1 g1 s1
  obtain ⟨Lx2, Ll2, Ln2, lt2⟩ := lstB_rest a1.2.1 a1.2.2
  refine thenN_call (kinds46_then U R1 x1 (by omega) fun v2 ζ2 o2 R2 F2 => ?_)
  have n2 := F2.1
  have g2 := (F2.2 W (by omega) (by omega)).trans w1
  have s2 := (F2.2 η.nx (by omega) (by omega)).trans t1
  have x2 : ∀ x ∈ (lstB a1.2.1 a1.2.2).2.1, x < 256 := fun x h => x1 x (Lx2 x h)
  generalize ha2 : lstB a1.2.1 a1.2.2 = a2 at *
  have q2 := OwnA.cells1 o2
  simp -implicitDefEqProofs (disch := omega) only [go_sem, g2, q2]
  obtain ⟨ξ2, hξ2⟩ : ∃ ξ, ξ = ζ2.put W (.live false [v1, v2, .nilslice, .nilslice, .nilslice, .nilslice]) := ⟨_, rfl⟩
  have xn2 : ξ2.nx = ζ2.nx := by rw [hξ2]; rfl
  have kx2 : ∀ b, b ≠ W → ξ2.f b = ζ2.f b := fun b hb => by rw [hξ2]; show (if b = W then _ else _) = _; rw [if_neg hb]
  have w2 : ξ2.f W = .live false [v1, v2, .nilslice, .nilslice, .nilslice, .nilslice] := by rw [hξ2]; show (if W = W then _ else _) = _; rw [if_pos rfl]
  have R2 := R2.keepB (Nat.le_of_eq xn2.symm) fun b hb => kx2 b (by omega)
  have t2 := (kx2 η.nx (by omega)).trans s2
  have S2 : KpS rp W ζ2 ξ2 := ⟨Nat.le_of_eq xn2.symm, fun b _ _ hw => kx2 b hw⟩
  rw [← hξ2]
  clear hξ2 kx2 g2 s2
  obtain ⟨Lx3, Ll3, Ln3, lt3⟩ := lstB_rest a2.2.1 a2.2.2
  refine thenN_call (kinds46_then U R2 x2 (by omega) fun v3 ζ3 o3 R3 F3 => ?_)
  have n3 := F3.1
  have g3 := (F3.2 W (by omega) (by omega)).trans w2
  have s3 := (F3.2 η.nx (by omega) (by omega)).trans t2
  have x3 : ∀ x ∈ (lstB a2.2.1 a2.2.2).2.1, x < 256 := fun x h => x2 x (Lx3 x h)
  generalize ha3 : lstB a2.2.1 a2.2.2 = a3 at *
  have q3 := OwnA.cells1 o3
  simp -implicitDefEqProofs (disch := omega) only [go_sem, g3, q3]
  obtain ⟨ξ3, hξ3⟩ : ∃ ξ, ξ = ζ3.put W (.live false [v1, v2, v3, .nilslice, .nilslice, .nilslice]) := ⟨_, rfl⟩
  have xn3 : ξ3.nx = ζ3.nx := by rw [hξ3]; rfl
  have kx3 : ∀ b, b ≠ W → ξ3.f b = ζ3.f b := fun b hb => by rw [hξ3]; show (if b = W then _ else _) = _; rw [if_neg hb]
  have w3 : ξ3.f W = .live false [v1, v2, v3, .nilslice, .nilslice, .nilslice] := by rw [hξ3]; show (if W = W then _ else _) = _; rw [if_pos rfl]
  have R3 := R3.keepB (Nat.le_of_eq xn3.symm) fun b hb => kx3 b (by omega)
  have t3 := (kx3 η.nx (by omega)).trans s3
  have S3 : KpS rp W ζ3 ξ3 := ⟨Nat.le_of_eq xn3.symm, fun b _ _ hw => kx3 b hw⟩
  rw [← hξ3]
  clear hξ3 kx3 g3 s3
  obtain ⟨Lx4, Ll4, Ln4, lt4⟩ := lstB_rest a3.2.1 a3.2.2
  refine thenN_call (kinds46_then U R3 x3 (by omega) fun v4 ζ4 o4 R4 F4 => ?_)
  have n4 := F4.1
  have g4 := (F4.2 W (by omega) (by omega)).trans w3
  have s4 := (F4.2 η.nx (by omega) (by omega)).trans t3
  have x4 : ∀ x ∈ (lstB a3.2.1 a3.2.2).2.1, x < 256 := fun x h => x3 x (Lx4 x h)
  generalize ha4 : lstB a3.2.1 a3.2.2 = a4 at *
  have q4 := OwnA.cells1 o4
  simp -implicitDefEqProofs (disch := omega) only [go_sem, g4, q4]
  obtain ⟨ξ4, hξ4⟩ : ∃ ξ, ξ = ζ4.put W (.live false [v1, v2, v3, v4, .nilslice, .nilslice]) := ⟨_, rfl⟩
  have xn4 : ξ4.nx = ζ4.nx := by rw [hξ4]; rfl
  have kx4 : ∀ b, b ≠ W → ξ4.f b = ζ4.f b := fun b hb => by rw [hξ4]; show (if b = W then _ else _) = _; rw [if_neg hb]
  have w4 : ξ4.f W = .live false [v1, v2, v3, v4, .nilslice, .nilslice] := by rw [hξ4]; show (if W = W then _ else _) = _; rw [if_pos rfl]
  have R4 := R4.keepB (Nat.le_of_eq xn4.symm) fun b hb => kx4 b (by omega)
  have t4 := (kx4 η.nx (by omega)).trans s4
  have S4 : KpS rp W ζ4 ξ4 := ⟨Nat.le_of_eq xn4.symm, fun b _ _ hw => kx4 b hw⟩
  rw [← hξ4]
  clear hξ4 kx4 g4 s4
  have T4 := S4
  have T3 := S3.trans ((KpR.s (W := W) F4).trans T4)
  have T2 := S2.trans ((KpR.s (W := W) F3).trans T3)
  have T1 := S1.trans ((KpR.s (W := W) F2).trans T2)
  have T0 := (KpR.s (W := W) F1).trans T1
  have EX4 : ExtB η.nx η ξ4 := ⟨by have := T0.1; omega, fun b hb => (T0.2 b (by omega) (by omega) (by omega)).trans (E0.2 b hb)⟩
  have o1 := OwnA.keepS o1 T1 (by omega) (by omega)
  have o2 := OwnA.keepS o2 T2 (by omega) (by omega)
  have o3 := OwnA.keepS o3 T3 (by omega) (by omega)
  have o4 := OwnA.keepS o4 T4 (by omega) (by omega)
  have B0 := E0.1
  have B1 : ξ0.nx ≤ ξ4.nx := T0.1
  clear T0 T1 T2 T3 T4 S1 S2 S3 S4 F1 F2 F3 F4 R0 R1 R2 R3 w0 w1 w2 w3 t0 t1 t2 t3
  obtain ⟨Lx5, Ll5, Ln5, lt5⟩ := lstB_rest a4.2.1 a4.2.2
  have x5 : ∀ x ∈ (lstB a4.2.1 a4.2.2).2.1, x < 256 := fun x h => x4 x (Lx5 x h)
  have hlst : lstB a4.2.1 a4.2.2 = lstB a4.2.1 a4.2.2 := rfl
  conv at hlst => lhs; unfold lstB
  generalize lstB a4.2.1 a4.2.2 = a5 at *
  obtain ⟨z1, z2, z3⟩ := nF_le a4.2.1 a4.2.2
  refine thenN_call (n47_then U R4 x4 (by omega) fun ζ5 R5 n5 k5 => ?_)
  have hx5 : ∀ x ∈ (nF a4.2.1 a4.2.2).2.1, x < 256 := fun x h => x4 x (z3 x h)
  generalize nF a4.2.1 a4.2.2 = g5 at *
  obtain ⟨n, l1, bad1⟩ := g5
  dsimp only at *
  have w5 := (k5 W (by omega)).trans w4
  simp -implicitDefEqProofs (disch := omega) only [go_sem]
  have K5 : KpS rp W ξ4 ζ5 := (KpR.ofRd n5 k5).s
  obtain ⟨I, hI⟩ : ∃ I : Nat → FN → HN → Prop, ∀ m φ ζ, I m φ ζ ↔ ∃ i x xs lr br, m = n - i ∧ i ≤ n ∧ (φ 0 = y ∧ φ 2 = .ptr η.nx 0 ∧ φ 4 = .ptr rp 0 ∧ φ 5 = .ptr W 0 ∧ φ 6 = .int .i64 n ∧ φ 7 = .int .i64 i) ∧ ζ.f W = .live false [v1, v2, v3, v4, x, .nilslice] ∧ xs.length = i ∧ OwnA 1 ξ4.nx ζ x i (xs.map (.int .i64)) ∧ RdrAt ζ rp lr br ∧ KpS rp W ξ4 ζ ∧ (xs ++ (rdB (n - i) lr br).1, (rdB (n - i) lr br).2) = rdB n l1 bad1 ∧ (∀ y ∈ lr, y < 256) ∧ lr.length ≤ l1.length := ⟨_, fun _ _ _ => Iff.rfl⟩
  obtain ⟨J, hJ⟩ : ∃ J : FN → HN → Prop, ∀ φ ζ, J φ ζ ↔ ∃ x, (φ 0 = y ∧ φ 2 = .ptr η.nx 0 ∧ φ 4 = .ptr rp 0 ∧ φ 5 = .ptr W 0) ∧ ζ.f W = .live false [v1, v2, v3, v4, x, .nilslice] ∧ OwnA 1 ξ4.nx ζ x a5.1.length (a5.1.map (.int .i64)) ∧ RdrAt ζ rp a5.2.1 a5.2.2 ∧ KpS rp W ξ4 ζ := ⟨_, fun _ _ => Iff.rfl⟩
  refine wpN_loopJ 0 I J n ((hI _ _ _).2 ⟨0, .nilslice, [], l1, bad1, rfl, Nat.zero_le _, ⟨rfl, rfl, rfl, rfl, rfl, rfl⟩, w5, rfl, OwnA.nil, R5, K5, rfl, hx5, Nat.le_refl _⟩) ?_ ?_
  · intro m φ ζ hi
    obtain ⟨i, x, xs, lr, br, hm, hi, ⟨p0, p2, p4, p5, p6, p7⟩, wz, hxs, o, R, K, ht, hxr, hlr⟩ := (hI _ _ _).1 hi
    have nK := K.1
    have out : (xs, lr, br) = rdB n l1 bad1 → ∀ φ', φ' 0 = y → φ' 2 = .ptr η.nx 0 → φ' 4 = .ptr rp 0 → φ' 5 = .ptr W 0 → J φ' ζ := fun e φ' h0 h2 h4 h5 => by
      rw [hlst] at e
      rw [← e] at hJ
      exact (hJ _ _).2 ⟨x, ⟨h0, h2, h4, h5⟩, wz, by dsimp only; rw [hxs]; exact o, R, K⟩
    by_cases hlt : i < n
    · have R' := R
      obtain ⟨yr, r1, r2, r3⟩ := R'
      cases br with
      | true =>
        simp -implicitDefEqProofs (disch := omega) only [go_sem, p0, p2, p4, p5, p6, p7, r1]
        rw [rdB_t, List.append_nil] at ht
        exact out ht _ p0 p2 p4 p5
      | false =>
        obtain ⟨q, hq⟩ : ∃ q, n - i = q + 1 := ⟨n - i - 1, by omega⟩
        rw [hq, rdB, if_neg (by decide)] at ht
        simp -implicitDefEqProofs (disch := omega) only [go_sem, p0, p2, p4, p5, p6, p7, r1, wz]
        obtain ⟨N, hN⟩ : ∃ N, N = ζ.nx + (1 + 1 + 1 + 1 + 1 + 1 + 1 + 1 + 1 + 1) := ⟨_, rfl⟩
        rw [← hN]
        refine dE_call (refI_then U (R.keepB (η' := ζ.at_ N) (by show ζ.nx ≤ N; omega) fun _ _ => rfl) hxr (by omega) fun ζ2 R2 n2 k2 => ?_)
        have n2 : N = ζ2.nx := n2
        have k2 : ∀ b, b ≠ rp → ζ2.f b = ζ.f b := k2
        have w2 := (k2 W (by omega)).trans wz
        have hrr := rdG_rest lr false
        have hrl := rdG_len lr false
        generalize rdG lr false = g at *
        simp -implicitDefEqProofs (disch := omega) only [go_sem, p0, p2, p4, p5, p6, p7, wz, w2]
        obtain ⟨ζ3, hζ3⟩ : ∃ ζ', ζ' = ((ζ2.at_ (ζ.nx + 6)).new (.live false [AV.int .i64 (uz g.1)])).at_ ζ2.nx := ⟨_, rfl⟩
        have m3 : ζ3.nx = ζ2.nx := by rw [hζ3]; rfl
        have k3 : ∀ b, b ≠ ζ.nx + 6 → ζ3.f b = ζ2.f b := fun b hb => by rw [hζ3]; show (if b = ζ.nx + 6 then _ else _) = _; rw [if_neg hb]; rfl
        have y3 : RdA 1 ζ3 (.slice (ζ.nx + 6) 0 1 (.kn 1)) 1 [AV.int .i64 (uz g.1)] := .inr ⟨ζ.nx + 6, 0, _, false, [AV.int .i64 (uz g.1)], rfl, by rw [hζ3]; show (if ζ.nx + 6 = ζ.nx + 6 then _ else _) = _; rw [if_pos rfl], by omega, Nat.le_refl _, rfl, rfl⟩
        have Wn : W < ζ.nx := by omega
        have w3 := (k3 W (by omega)).trans w2
        have o3 := OwnA.keep o (show ζ.nx ≤ ζ3.nx by omega) fun b h1 h2 => (k3 b (by omega)).trans (k2 b (by omega))
        rw [show ζ.nx + (1 + 1 + 1 + 1 + 1 + 1) = ζ.nx + 6 from rfl, ← hζ3]
        refine dE_app (w := 8) (base := ξ4.nx) (by decide) o3 y3 (by omega) (by omega) fun x4' ζ4' o4' E4 => ?_
        have n4' := E4.1
        have g4 := fun b (hb : b < ξ4.nx) => E4.2 b hb
        have w4' := (g4 W (by omega)).trans w3
        have q4' := OwnA.cells1 o4'
        simp -implicitDefEqProofs (disch := omega) only [go_sem, p0, p2, p4, p5, p6, p7, wz, w2, w3, w4', q4']
        refine ⟨fun h => absurd h (by decide), n - (i + 1), by omega, (hI _ _ _).2 ⟨i + 1, x4', xs ++ [uz g.1], g.2.1, g.2.2, rfl, by omega, ⟨p0, p2, p4, p5, p6, rfl⟩, by show (if W = W then _ else _) = _; rw [if_pos rfl], by rw [List.length_append]; simp; omega, ?_, ?_, ⟨by show ξ4.nx ≤ ζ4'.nx; omega, fun b hb hr hw => ?_⟩, ?_, fun y hy => hxr y (hrr y hy), by omega⟩⟩
        · rw [List.map_append]
          exact OwnA.keep o4' (Nat.le_refl _) fun b h1 h2 => by show (if b = W then _ else _) = _; rw [if_neg (by omega)]
        · exact R2.keepB (by show ζ2.nx ≤ ζ4'.nx; omega) fun b hb => by show (if b = W then _ else _) = _; rw [if_neg (by omega)]; exact (g4 b (by omega)).trans (k3 b (by omega))
        · show (if b = W then _ else _) = _
          rw [if_neg hw]
          exact (g4 b hb).trans ((k3 b (by omega)).trans ((k2 b hr).trans (K.2 b hb hr hw)))
        · rw [show n - (i + 1) = q by omega, ← ht, List.append_assoc]; rfl
    · obtain rfl : i = n := by omega
      simp -implicitDefEqProofs (disch := omega) only [go_sem, p0, p2, p4, p5, p6, p7]
      rw [Nat.sub_self] at ht
      have ht : (xs ++ [], lr, br) = rdB i l1 bad1 := ht
      rw [List.append_nil] at ht
      exact out ht _ p0 p2 p4 p5
  intro φ ζ6 hj
  obtain ⟨v5, ⟨p0, p2, p4, p5⟩, w6, o5, R6, K6⟩ := (hJ _ _).1 hj
  clear hI hj R5 K5 w5 hx5 w4 n5 k5
  have B6 := K6.1
  obtain ⟨Lx6, Ll6, Ln6, lt6⟩ := codB_rest a5.2.1 a5.2.2
  have x6 : ∀ x ∈ (codB a5.2.1 a5.2.2).2.1, x < 256 := fun x h => x5 x (Lx6 x h)
  have hcod : codB a5.2.1 a5.2.2 = codB a5.2.1 a5.2.2 := rfl
  conv at hcod => lhs; unfold codB
  generalize codB a5.2.1 a5.2.2 = a6 at *
  obtain ⟨z1', z2', z3'⟩ := nF_le a5.2.1 a5.2.2
  simp -implicitDefEqProofs (disch := omega) only [go_sem, p0, p2, p4, p5]
  refine thenN_call (n47_then U R6 x5 (by omega) fun ζ7 R7 n7 k7 => ?_)
  have hx7 : ∀ x ∈ (nF a5.2.1 a5.2.2).2.1, x < 256 := fun x h => x5 x (z3' x h)
  generalize nF a5.2.1 a5.2.2 = g7 at *
  obtain ⟨n', l2, bad2⟩ := g7
  dsimp only at *
  have w7 := (k7 W (by omega)).trans w6
  have K7 : KpS rp W ζ6 ζ7 := (KpR.ofRd n7 k7).s
  simp -implicitDefEqProofs (disch := omega) only [go_sem, p0, p2, p4, p5]
  obtain ⟨I, hI⟩ : ∃ I : Nat → FN → HN → Prop, ∀ m φ ζ, I m φ ζ ↔ ∃ i x xs lr br, m = n' - i ∧ i ≤ n' ∧ (φ 0 = y ∧ φ 2 = .ptr η.nx 0 ∧ φ 4 = .ptr rp 0 ∧ φ 5 = .ptr W 0 ∧ φ 6 = .int .i64 n' ∧ φ 8 = .int .i64 i) ∧ ζ.f W = .live false [v1, v2, v3, v4, v5, x] ∧ xs.length = i ∧ OwnA 4 ζ6.nx ζ x i (rowsC xs) ∧ RdrAt ζ rp lr br ∧ KpS rp W ζ6 ζ ∧ (xs ++ (rdCB (n' - i) lr br).1, (rdCB (n' - i) lr br).2) = rdCB n' l2 bad2 ∧ (∀ y ∈ lr, y < 256) ∧ lr.length ≤ l2.length := ⟨_, fun _ _ _ => Iff.rfl⟩
  obtain ⟨J2, hJ2⟩ : ∃ J : FN → HN → Prop, ∀ φ ζ, J φ ζ ↔ ∃ x, (φ 0 = y ∧ φ 2 = .ptr η.nx 0 ∧ φ 4 = .ptr rp 0 ∧ φ 5 = .ptr W 0) ∧ ζ.f W = .live false [v1, v2, v3, v4, v5, x] ∧ OwnA 4 ζ6.nx ζ x a6.1.length (rowsC a6.1) ∧ RdrAt ζ rp a6.2.1 a6.2.2 ∧ KpS rp W ζ6 ζ := ⟨_, fun _ _ => Iff.rfl⟩
  refine wpN_loopJ 2 I J2 n' ((hI _ _ _).2 ⟨0, .nilslice, [], l2, bad2, rfl, Nat.zero_le _, ⟨p0, p2, p4, p5, rfl, rfl⟩, w7, rfl, OwnA.nil, R7, K7, rfl, hx7, Nat.le_refl _⟩) ?_ ?_
  · clear p0 p2 p4 p5
    intro m φ ζ hi
    obtain ⟨i, x, xs, lr, br, hm, hi, ⟨p0, p2, p4, p5, p6, p8⟩, wz, hxs, o, R, K, ht, hxr, hlr⟩ := (hI _ _ _).1 hi
    have nK := K.1
    have out : (xs, lr, br) = rdCB n' l2 bad2 → ∀ φ', φ' 0 = y → φ' 2 = .ptr η.nx 0 → φ' 4 = .ptr rp 0 → φ' 5 = .ptr W 0 → J2 φ' ζ := fun e φ' h0 h2 h4 h5 => by
      rw [hcod] at e
      rw [← e] at hJ2
      exact (hJ2 _ _).2 ⟨x, ⟨h0, h2, h4, h5⟩, wz, by dsimp only; rw [hxs]; exact o, R, K⟩
    by_cases hlt : i < n'
    · have R' := R
      obtain ⟨yr, r1, r2, r3⟩ := R'
      cases br with
      | true =>
        simp -implicitDefEqProofs (disch := omega) only [go_sem, p0, p2, p4, p5, p6, p8, r1]
        rw [rdCB_t, List.append_nil] at ht
        exact out ht _ p0 p2 p4 p5
      | false =>
        obtain ⟨q, hq⟩ : ∃ q, n' - i = q + 1 := ⟨n' - i - 1, by omega⟩
        rw [hq, rdCB, if_neg (by decide)] at ht
        simp -implicitDefEqProofs (disch := omega) only [go_sem, p0, p2, p4, p5, p6, p8, r1, wz]
        obtain ⟨β0, hβ0⟩ : ∃ β, β = (ζ.new (.live false [AV.int .i64 0, .int .i64 0, .int .i64 0, .int .i64 0])).put ζ.nx (.live false [AV.int .i64 0, .int .i64 0, .int .i64 0, .int .i64 0]) := ⟨_, rfl⟩
        have bn0 : β0.nx = ζ.nx + 1 := by rw [hβ0]; rfl
        have kb0 : ∀ b, b < ζ.nx → β0.f b = ζ.f b := fun b hb => by rw [hβ0]; show (if b = ζ.nx then _ else if b = ζ.nx then _ else _) = _; rw [if_neg (by omega), if_neg (by omega)]
        have d0 : β0.f ζ.nx = .live false [AV.int .i64 0, .int .i64 0, .int .i64 0, .int .i64 0] := by rw [hβ0]; show (if ζ.nx = ζ.nx then _ else _) = _; rw [if_pos rfl]
        have Wn : W < ζ.nx := by omega
        have Q0 := R.keepB (η' := β0) (by omega) fun b hb => kb0 b (by omega)
        rw [← hβ0]
        have h44 : rd4 lr false = rd4 lr false := rfl
        conv at h44 => rhs; unfold rd4
        have gx1 : ∀ x ∈ (rdG lr false).2.1, x < 256 := fun x h => hxr x (rdG_rest _ _ x h)
        have gl1 := rdG_len lr false
        refine thenN_call (refI_then U Q0 hxr (by omega) fun α1 P1 n1' k1 => ?_)
        have e1' := (k1 ζ.nx (by omega)).trans d0
        have wn := Wn
        generalize rdG lr false = g1 at *
        simp -implicitDefEqProofs (disch := omega) only [go_sem, p0, p2, p4, p5, p6, p8, e1']
        obtain ⟨β1, hβ1⟩ : ∃ β, β = α1.put ζ.nx (.live false [AV.int .i64 (uz g1.1), AV.int .i64 0, AV.int .i64 0, AV.int .i64 0]) := ⟨_, rfl⟩
        have bn1 : β1.nx = ζ.nx + 1 := by rw [hβ1]; show α1.nx = _; omega
        have kb1 : ∀ b, b < ζ.nx → b ≠ rp → β1.f b = ζ.f b := fun b hb hr => by rw [hβ1]; show (if b = ζ.nx then _ else _) = _; rw [if_neg (by omega)]; exact (k1 b hr).trans (kb0 b hb)
        have d1 : β1.f ζ.nx = .live false [AV.int .i64 (uz g1.1), AV.int .i64 0, AV.int .i64 0, AV.int .i64 0] := by rw [hβ1]; show (if ζ.nx = ζ.nx then _ else _) = _; rw [if_pos rfl]
        have Q1 := P1.keepB (η' := β1) (by omega) fun b hb => by rw [hβ1]; show (if b = ζ.nx then _ else _) = _; rw [if_neg (by omega)]
        rw [← hβ1]
        have gx2 : ∀ x ∈ (rdG g1.2.1 g1.2.2).2.1, x < 256 := fun x h => gx1 x (rdG_rest _ _ x h)
        have gl2 := rdG_len g1.2.1 g1.2.2
        refine thenN_call (refI_then U Q1 gx1 (by omega) fun α2 P2 n2' k2 => ?_)
        have e2' := (k2 ζ.nx (by omega)).trans d1
        have wn := Wn
        generalize rdG g1.2.1 g1.2.2 = g2 at *
        simp -implicitDefEqProofs (disch := omega) only [go_sem, p0, p2, p4, p5, p6, p8, e2']
        obtain ⟨β2, hβ2⟩ : ∃ β, β = α2.put ζ.nx (.live false [AV.int .i64 (uz g1.1), AV.int .i64 (uz g2.1), AV.int .i64 0, AV.int .i64 0]) := ⟨_, rfl⟩
        have bn2 : β2.nx = ζ.nx + 1 := by rw [hβ2]; show α2.nx = _; omega
        have kb2 : ∀ b, b < ζ.nx → b ≠ rp → β2.f b = ζ.f b := fun b hb hr => by rw [hβ2]; show (if b = ζ.nx then _ else _) = _; rw [if_neg (by omega)]; exact (k2 b hr).trans (kb1 b hb hr)
        have d2 : β2.f ζ.nx = .live false [AV.int .i64 (uz g1.1), AV.int .i64 (uz g2.1), AV.int .i64 0, AV.int .i64 0] := by rw [hβ2]; show (if ζ.nx = ζ.nx then _ else _) = _; rw [if_pos rfl]
        have Q2 := P2.keepB (η' := β2) (by omega) fun b hb => by rw [hβ2]; show (if b = ζ.nx then _ else _) = _; rw [if_neg (by omega)]
        rw [← hβ2]
        have gx3 : ∀ x ∈ (rdG g2.2.1 g2.2.2).2.1, x < 256 := fun x h => gx2 x (rdG_rest _ _ x h)
        have gl3 := rdG_len g2.2.1 g2.2.2
        refine thenN_call (refI_then U Q2 gx2 (by omega) fun α3 P3 n3' k3 => ?_)
        have e3' := (k3 ζ.nx (by omega)).trans d2
        have wn := Wn
        generalize rdG g2.2.1 g2.2.2 = g3 at *
        simp -implicitDefEqProofs (disch := omega) only [go_sem, p0, p2, p4, p5, p6, p8, e3']
        obtain ⟨β3, hβ3⟩ : ∃ β, β = α3.put ζ.nx (.live false [AV.int .i64 (uz g1.1), AV.int .i64 (uz g2.1), AV.int .i64 (uz g3.1), AV.int .i64 0]) := ⟨_, rfl⟩
        have bn3 : β3.nx = ζ.nx + 1 := by rw [hβ3]; show α3.nx = _; omega
        have kb3 : ∀ b, b < ζ.nx → b ≠ rp → β3.f b = ζ.f b := fun b hb hr => by rw [hβ3]; show (if b = ζ.nx then _ else _) = _; rw [if_neg (by omega)]; exact (k3 b hr).trans (kb2 b hb hr)
        have d3 : β3.f ζ.nx = .live false [AV.int .i64 (uz g1.1), AV.int .i64 (uz g2.1), AV.int .i64 (uz g3.1), AV.int .i64 0] := by rw [hβ3]; show (if ζ.nx = ζ.nx then _ else _) = _; rw [if_pos rfl]
        have Q3 := P3.keepB (η' := β3) (by omega) fun b hb => by rw [hβ3]; show (if b = ζ.nx then _ else _) = _; rw [if_neg (by omega)]
        rw [← hβ3]
        have gx4 : ∀ x ∈ (rdG g3.2.1 g3.2.2).2.1, x < 256 := fun x h => gx3 x (rdG_rest _ _ x h)
        have gl4 := rdG_len g3.2.1 g3.2.2
        refine thenN_call (refI_then U Q3 gx3 (by omega) fun α4 P4 n4' k4 => ?_)
        have e4' := (k4 ζ.nx (by omega)).trans d3
        have wa4 := (k4 W (by omega)).trans ((kb3 W Wn (by omega)).trans wz)
        generalize rdG g3.2.1 g3.2.2 = g4 at *
        simp -implicitDefEqProofs (disch := omega) only [go_sem, p0, p2, p4, p5, p6, p8, e4', wa4]
        obtain ⟨β4, hβ4⟩ : ∃ β, β = α4.put ζ.nx (.live false [AV.int .i64 (uz g1.1), AV.int .i64 (uz g2.1), AV.int .i64 (uz g3.1), AV.int .i64 (uz g4.1)]) := ⟨_, rfl⟩
        have bn4 : β4.nx = ζ.nx + 1 := by rw [hβ4]; show α4.nx = _; omega
        have kb4 : ∀ b, b < ζ.nx → b ≠ rp → β4.f b = ζ.f b := fun b hb hr => by rw [hβ4]; show (if b = ζ.nx then _ else _) = _; rw [if_neg (by omega)]; exact (k4 b hr).trans (kb3 b hb hr)
        have d4 : β4.f ζ.nx = .live false [AV.int .i64 (uz g1.1), AV.int .i64 (uz g2.1), AV.int .i64 (uz g3.1), AV.int .i64 (uz g4.1)] := by rw [hβ4]; show (if ζ.nx = ζ.nx then _ else _) = _; rw [if_pos rfl]
        have Q4 := P4.keepB (η' := β4) (by omega) fun b hb => by rw [hβ4]; show (if b = ζ.nx then _ else _) = _; rw [if_neg (by omega)]
        rw [← hβ4]
        have wb := (kb4 W Wn (by omega)).trans wz
        have o4 := OwnA.keep o (show ζ.nx ≤ β4.nx by omega) fun b h1 h2 => kb4 b h2 (by omega)
        refine thenN_app (w := 32) (base := ζ6.nx) (by decide) (o4.ext (.new (Nat.le_refl _))) (RdA.lit14 (cp := .kn 1)) (by omega) (by show ζ6.nx ≤ β4.nx + 1; omega) fun x9 ζ9 o9 E9 => ?_
        have n9 : β4.nx + 1 ≤ ζ9.nx := E9.1
        have g9 : ∀ b, b < ζ6.nx → ζ9.f b = β4.f b := fun b hb => (E9.2 b hb).trans (by show (if b = β4.nx then _ else _) = _; rw [if_neg (by omega)])
        have w9 := (g9 W (by omega)).trans wb
        have q9 := OwnA.cells1 o9
        simp -implicitDefEqProofs (disch := omega) only [go_sem, p0, p2, p4, p5, p6, p8, w9, q9]
        refine ⟨n' - (i + 1), by omega, (hI _ _ _).2 ⟨i + 1, x9, xs ++ [(rd4 lr false).1], (rd4 lr false).2.1, (rd4 lr false).2.2, rfl, by omega, ⟨p0, p2, p4, p5, p6, rfl⟩, by show (if W = W then _ else _) = _; rw [if_pos rfl], by rw [List.length_append]; simp; omega, ?_, ?_, ⟨by show ζ6.nx ≤ ζ9.nx; omega, fun b hb hr hw => ?_⟩, ?_, fun y hy => hxr y ((rd4_rest lr false).1 y hy), Nat.le_trans (rd4_rest lr false).2 hlr⟩⟩
        · rw [rowsC_app, h44]
          exact OwnA.keep o9 (Nat.le_refl _) fun b h1 h2 => by show (if b = W then _ else _) = _; rw [if_neg (by omega)]
        · rw [h44]
          exact Q4.keepB (by show β4.nx ≤ ζ9.nx; omega) fun b hb => by show (if b = W then _ else _) = _; rw [if_neg (by omega)]; exact g9 b (by omega)
        · show (if b = W then _ else _) = _
          rw [if_neg hw]
          exact (g9 b hb).trans ((kb4 b (by omega) hr).trans (K.2 b hb hr hw))
        · rw [show n' - (i + 1) = q by omega, ← ht, List.append_assoc]; rfl
    · obtain rfl : i = n' := by omega
      simp -implicitDefEqProofs (disch := omega) only [go_sem, p0, p2, p4, p5, p6, p8]
      rw [Nat.sub_self] at ht
      have ht : (xs ++ [], lr, br) = rdCB i l2 bad2 := ht
      rw [List.append_nil] at ht
      exact out ht _ p0 p2 p4 p5
  clear p0 p2 p4 p5
  intro φ ζ8 hj
  obtain ⟨v6, ⟨p0, p2, p4, p5⟩, w8, o6, R8, K8⟩ := (hJ2 _ _).1 hj
  clear hI hj hJ hJ2 R6 w6 hx7 R7 w7 K7 n7 k7
  have B8 := K8.1
  have K48 := K6.trans K8
  obtain ⟨p, hp⟩ : ∃ p : PD, p = ⟨a1.1, a2.1, a3.1, a4.1, a5.1, a6.1⟩ := ⟨_, rfl⟩
  rw [← hp] at hdec
  have hP : ∀ ζ' : HN, ζ8.nx ≤ ζ'.nx → (∀ b, ξ0.nx ≤ b → b < ζ8.nx → ζ'.f b = ζ8.f b) → IsP ζ' ⟨v1, v2, v3, v4, v5, v6⟩ p := fun ζ' hn hk => by
    rw [hp]
    refine ⟨OwnA.rdI (OwnA.keep (OwnA.keepS o1 K48 (by omega) (by omega)) hn fun b h1 h2 => hk b (by omega) h2), OwnA.rdI (OwnA.keep (OwnA.keepS o2 K48 (by omega) (by omega)) hn fun b h1 h2 => hk b (by omega) h2), OwnA.rdI (OwnA.keep (OwnA.keepS o3 K48 (by omega) (by omega)) hn fun b h1 h2 => hk b (by omega) h2), OwnA.rdI (OwnA.keep (OwnA.keepS o4 K48 (by omega) (by omega)) hn fun b h1 h2 => hk b (by omega) h2), OwnA.rdI (OwnA.keep (OwnA.keepS o5 K8 (by omega) (by omega)) hn fun b h1 h2 => hk b (by omega) h2), OwnA.rdC (OwnA.keep o6 hn fun b h1 h2 => hk b (by omega) h2)⟩
  have EX : ExtB η.nx η ζ8 := ⟨by omega, fun b hb => (K48.2 b (by omega) (by omega) (by omega)).trans (EX4.2 b hb)⟩
  have hres : Res p := by
    rw [hp]
    exact ⟨⟨by show a1.1.length < _; omega, lt1⟩, ⟨by show a2.1.length < _; omega, lt2⟩, ⟨by show a3.1.length < _; omega, lt3⟩, ⟨by show a4.1.length < _; omega, lt4⟩, ⟨by show a5.1.length < _; omega, lt5⟩, ⟨by show a6.1.length < _; omega, lt6⟩⟩
  have htot : totN p ≤ 1000000000 := by
    rw [hp]
    show a1.1.length + (a2.1.length + (a3.1.length + (a4.1.length + (a5.1.length + 4 * a6.1.length)))) ≤ _
    omega
  have main : a6.2.2 = true ∨ a6.2.1 ≠ [] ∨ encF p ≠ l → ∀ p', Res p' → encF p' ≠ l := fun hor p' hp' he => by
    have hm := (mid_enc p').1
    rw [he, ← hmd] at hm
    have hd := decB_enc hp' []
    rw [List.append_nil, ← hm, hdec] at hd
    obtain ⟨e1, e2⟩ := Prod.mk.inj hd
    rcases hor with h | h | h
    · rw [e2] at h; cases h
    · rw [e2] at h; exact h rfl
    · rw [e1] at h; exact h he
  have t8 : ζ8.f η.nx = .live false nilP := (K48.2 _ (by omega) (by omega) (by omega)).trans t4
  have Wn : W < ζ8.nx := by omega
  have R8' := R8
  obtain ⟨yr, r1, r2, r3⟩ := R8'
  cases hbad : a6.2.2 with
  | true =>
    rw [hbad] at r1
    simp -implicitDefEqProofs (disch := omega) only [go_sem, p0, p2, p4, p5, r1, t8]
    exact hno (main (.inl hbad)) _ (extP EX)
  | false =>
  rw [hbad] at r1
  have lyr := fun e w η' => r3.len (e := e) (w := w) (η' := η') (by omega)
  by_cases hrest : 0 < a6.2.1.length
  · simp -implicitDefEqProofs (disch := omega) only [go_sem, p0, p2, p4, p5, r1, t8, lyr]
    exact hno (main (.inr (.inl fun e => by rw [e] at hrest; simp at hrest))) _ (extP EX)
  simp -implicitDefEqProofs (disch := omega) only [go_sem, p0, p2, p4, p5, r1, t8, lyr, w8]
  refine dE_call (refenc_then U (z := ⟨v1, v2, v3, v4, v5, v6⟩) (hP ζ8 (Nat.le_refl _) fun _ _ _ => rfl) hres htot fun v7 ξ7 o7 F7 => ?_)
  have r7 := (F7.2 rp (by omega)).trans r1
  have w7 := (F7.2 W (by omega)).trans w8
  have t7 := (F7.2 η.nx (by omega)).trans t8
  have n7 := F7.1
  have EX7 : ExtB η.nx η ξ7 := EX.trans (F7.mono EX.1)
  have hle := el p
  have s7 : cvN' Tryd.prog (.slice 5 1 1) .str v7 ξ7 = .ok (.str (encF p).length (bV (encF p))) ξ7 := str_of o7.rd (fun q => by rw [q] at hle; simp at hle; omega) (by kernel_rfl)
  have s9 : cvN' Tryd.prog (.slice 5 1 1) .str y ξ7 = .ok (.str l.length (bV l)) ξ7 := str_of (hy.ext EX7).toA (fun q => h8 (by rw [q]; decide)) (by kernel_rfl)
  have s8 : cvN' Tryd.prog (.slice 5 1 1) .str y ζ8 = .ok (.str l.length (bV l)) ζ8 := str_of (hy.ext EX).toA (fun q => h8 (by rw [q]; decide)) (by kernel_rfl)
  have sd := str_dec (encF_lt hres) hx
  by_cases he : encF p = l
  · rw [decide_eq_true he] at sd
    simp -implicitDefEqProofs (disch := omega) only [go_sem, p0, p2, p4, p5, r1, r7, t7, lyr, w8, w7, s7, s8, s9, sd]
    exact hyes ⟨v1, v2, v3, v4, v5, v6⟩ p hres he htot _ (hP _ (by show ζ8.nx ≤ ξ7.nx; omega) fun b h1 h2 => by show (if b = η.nx then _ else _) = _; rw [if_neg (by omega)]; exact F7.2 b h2) (extP EX7)
  · rw [decide_eq_false he] at sd
    simp -implicitDefEqProofs (disch := omega) only [go_sem, p0, p2, p4, p5, r1, r7, t7, lyr, w8, w7, s7, s8, s9, sd]
    exact hno (main (.inr (.inr he))) _ (extP (c := η.nx) (y := .live false nilP) EX7)
end Go.Proofs.YtjljolnhmmbkoaaDoor
