/- What is proved: a program, written by the document. lists of numbers, of instructions, read. Conditions: as each theorem says. -/
import Derived.Test.YtjljolnhmmbkoaaDoorCodB
set_option linter.unusedVariables false
set_option linter.unusedSimpArgs false
set_option linter.unusedSectionVars false
namespace Go.Proofs.YtjljolnhmmbkoaaDoor
open Go.Eng Go.Plain
set_option autoImplicit false
set_option maxRecDepth 100000
variable {nat : ∀ [Deep], Nats}
set_option maxHeartbeats 1000000 in
theorem refcrc_call (U : Usual nat) {η : HN} {y : AV} {l : List Nat} (hy : RdA 1 η y l.length (u8s l)) (hx : ∀ x ∈ l, x < 256) (hl : l.length ≤ 1099511627776) : CallN Tryd.prog nat 19 [y] η (.int .u32 (crcF l)) η := by
  have : ∃ v η', CallN Tryd.prog nat 19 [y] η v η' ∧ v = .int .u32 (crcF l) ∧ η' = η := by
    refine call_of (PT := pl19) Tryd.func19 rfl (U 19 (by decide)) ok19 rfl ?_
    have ly : ∀ e w, lenN (.slice e 1 w) y η = .ok (.int .i64 l.length) η := fun e w => hy.len (by omega)
    simp -implicitDefEqProofs (disch := omega) only [go_sem]
    obtain ⟨I, hI⟩ : ∃ I : Nat → FN → HN → Prop, ∀ m φ ζ, I m φ ζ ↔ ζ = η ∧ ∃ i s, m = l.length - i ∧ i ≤ l.length ∧ φ 0 = y ∧ φ 3 = .int .u32 s ∧ φ 4 = .int .i64 i ∧ s = crcL 4294967295 (l.take i) := ⟨_, fun _ _ _ => Iff.rfl⟩
    refine wpN_loop I l.length ((hI _ _ _).2 ⟨rfl, 0, 4294967295, rfl, Nat.zero_le _, rfl, rfl, rfl, rfl⟩) ?_
    intro m φ ζ hi
    obtain ⟨rfl, i, s, hm, hi, p0, p3, p4, hs⟩ := (hI _ _ _).1 hi
    have hs32 : s < 4294967296 := by rw [hs]; exact crcL_lt _ _ (fun x h => hx x (List.mem_of_mem_take h)) (by decide)
    by_cases hlt : i < l.length
    · obtain ⟨b, off, cap, ro, row, ye, hb, hbn, hr⟩ := rdA_u8 hy hlt
      have hxi := hx _ (List.getElem_mem hlt)
      have hx32 := crc_x hs32 hxi
      rw [ye] at p0
      simp -implicitDefEqProofs (disch := omega) only [go_sem, p0, p3, p4, hb, hr]
      obtain ⟨J, hJ⟩ : ∃ J : Nat → FN → HN → Prop, ∀ m φ ζ', J m φ ζ' ↔ ζ' = ζ ∧ ∃ k t, m = 8 - k ∧ k ≤ 8 ∧ t < 4294967296 ∧ φ 0 = .slice b off l.length cap ∧ φ 3 = .int .u32 t ∧ φ 4 = .int .i64 i ∧ φ 5 = .int .i64 k ∧ crcN (8 - k) t = crcB s l[i] := ⟨_, fun _ _ _ => Iff.rfl⟩
      refine wpN_loop J 8 ((hJ _ _ _).2 ⟨rfl, 0, _, rfl, by decide, hx32, p0, rfl, p4, rfl, rfl⟩) ?_
      intro m' φ' ζ' hj
      obtain ⟨rfl, k, t, hm', hk, ht, q0, q3, q4, q5, hc⟩ := (hJ _ _ _).1 hj
      by_cases hk8 : k < 8
      · have e1 : shrN .u32 t 1 = t / 2 := shr_u32 ht
        have hcs : crcS t = if t % 2 = 1 then (t / 2) ^^^ 3988292384 else t / 2 := rfl
        have e8 : crcN (8 - (k + 1)) (crcS t) = crcB s l[i] := by rw [← hc, show 8 - k = 8 - (k + 1) + 1 by omega]; rfl
        have hlt2 := crcS_lt ht
        by_cases h1 : t % 2 = 1
        · rw [if_pos h1] at hcs
          simp -implicitDefEqProofs (disch := omega) only [go_sem, q0, q3, q4, q5, e1, Nat.and_one_is_mod, h1]
          exact ⟨8 - (k + 1), by omega, (hJ _ _ _).2 ⟨rfl, k + 1, crcS t, rfl, by omega, hlt2, q0, by rw [hcs]; rfl, q4, rfl, e8⟩⟩
        · rw [if_neg h1] at hcs
          simp -implicitDefEqProofs (disch := omega) only [go_sem, q0, q3, q4, q5, e1, Nat.and_one_is_mod]
          exact ⟨8 - (k + 1), by omega, (hJ _ _ _).2 ⟨rfl, k + 1, crcS t, rfl, by omega, hlt2, q0, by rw [hcs]; rfl, q4, rfl, e8⟩⟩
      · obtain rfl : k = 8 := by omega
        have hc : t = crcB s l[i] := hc
        simp -implicitDefEqProofs (disch := omega) only [go_sem, q0, q3, q4, q5]
        refine ⟨l.length - (i + 1), by omega, (hI _ _ _).2 ⟨rfl, i + 1, t, rfl, by omega, by rw [ye]; exact q0, q3, rfl, ?_⟩⟩
        rw [crcL_take hlt, ← hs, hc]
    · obtain rfl : i = l.length := by omega
      simp -implicitDefEqProofs (disch := omega) only [go_sem, p0, p3, p4, ly]
      rw [List.take_length] at hs
      unfold crcF
      rw [← hs, xor_ones32 hs32]
  obtain ⟨v, η', k, rfl, rfl⟩ := this
  exact k
set_option maxHeartbeats 1000000 in
theorem low_then (U : Usual nat) {η : HN} {s : Nat} {Q : AV → HN → Prop} (hs : s < 4294967296) (h : ∀ v η', RdA 1 η' v 4 (u8s (low4 s)) → ExtB η.nx η η' → Q v η') : ∃ v η', CallN Tryd.prog nat 18 [.int .u64 s, .int .i64 4] η v η' ∧ Q v η' := by
  refine call_of (PT := pl18) Tryd.func18 rfl (U 18 (by decide)) ok18 rfl ?_
  have hc : ¬1 = 0 ∧ 4 * 1 ≤ 140737488355328 := ⟨by decide, by omega⟩
  have e0 : shrN .u64 s 0 = s := by rw [shr_u64 (by omega)]; omega
  have e1 : shrN .u64 s 8 = s / 256 := shr_u64 (by omega)
  have e2 : shrN .u64 s 16 = s / 65536 := shr_u64 (by omega)
  have e3 : shrN .u64 s 24 = s / 16777216 := shr_u64 (by omega)
  simp -implicitDefEqProofs (disch := omega) only [go_sem, if_pos hc]
  refine loop_n 5 ?_
  simp -implicitDefEqProofs (disch := omega) only [go_sem, e0, e1, e2, e3]
  have e9 : s / 16777216 % 256 = s / 16777216 := by omega
  refine h _ _ ?_ (extP (extP (extP (extP (extN (.refl _ _))))))
  refine .inr ⟨η.nx, 0, _, false, _, rfl, by show (if η.nx = η.nx then _ else _) = _; rw [if_pos rfl], Nat.lt_succ_self _, Nat.le_refl _, rfl, ?_⟩
  unfold low4
  rw [e9]; rfl
/-- bytes that the document's writers left -/
abbrev OwnL (base : Nat) (η : HN) (x : AV) (l : List Nat) : Prop := OwnA 1 base η x l.length (u8s l)
theorem OwnL.of {base n : Nat} {η : HN} {x : AV} {l k : List Nat} (h : OwnA 1 base η x n (u8s k)) (hn : n = k.length) (e : k = l) : OwnL base η x l := by subst e hn; exact h
set_option maxHeartbeats 1000000 in
theorem kinds41_then (U : Usual nat) {η : HN} {y z : AV} {l ks : List Nat} {Q : AV → HN → Prop} (hy : RdA 1 η y l.length (u8s l)) (hz : RdI .i64 η z ks) (hl : l.length + 10 * ks.length + 10 ≤ 1099511627776) (hk : ∀ n ∈ ks, n < 18446744073709551616)
    (h : ∀ v η', OwnL η.nx η' v (l ++ lst ks) → ExtB η.nx η η' → Q v η') : ∃ v η', CallN Tryd.prog nat 41 [y, z] η v η' ∧ Q v η' := by
  refine call_of (PT := pl41) Tryd.func41 rfl (U 41 (by decide)) ok41 rfl ?_
  have lz := rdI_len hz (by omega)
  simp -implicitDefEqProofs (disch := omega) only [go_sem, lz]
  refine thenN_call (putU_then U hy (by omega) (by omega) fun v1 η1 o1 E1 => ?_)
  have hu := uv_len ks.length
  simp -implicitDefEqProofs (disch := omega) only [go_sem, lz]
  obtain ⟨I, hI⟩ : ∃ I : Nat → FN → HN → Prop, ∀ m φ ζ, I m φ ζ ↔ ∃ i x, m = ks.length - i ∧ i ≤ ks.length ∧ φ 0 = x ∧ φ 1 = z ∧ φ 5 = .int .i64 i ∧ OwnL η.nx ζ x (l ++ (uv ks.length ++ nums (ks.take i))) ∧ ExtB η.nx η ζ := ⟨_, fun _ _ _ => Iff.rfl⟩
  refine wpN_loop I ks.length ((hI _ _ _).2 ⟨0, v1, rfl, Nat.zero_le _, rfl, rfl, rfl, OwnL.of o1 List.length_append.symm (by simp [nums]), E1⟩) ?_
  intro m φ ζ hi
  obtain ⟨i, x, hm, hi, p0, p1, p5, o, E⟩ := (hI _ _ _).1 hi
  have hnl := (nums_len (ks.take i)).2
  rw [take_len hi] at hnl
  have hlen : (l ++ (uv ks.length ++ nums (ks.take i))).length ≤ 1099511627776 := by rw [List.length_append, List.length_append]; omega
  by_cases hlt : i < ks.length
  · obtain ⟨b, off, cap, ro, row, ze, hb, hbn, hr⟩ := (ext_rdI hz E).at hlt
    rw [ze] at p1
    simp -implicitDefEqProofs (disch := omega) only [go_sem, p0, p1, p5, hb, hr]
    refine thenN_call (putI_then U o.rd hlen (hk _ (List.getElem_mem hlt)) fun v2 η2 o2 E2 => ?_)
    simp -implicitDefEqProofs (disch := omega) only [go_sem, p0, p1, p5]
    refine ⟨ks.length - (i + 1), by omega, (hI _ _ _).2 ⟨i + 1, v2, rfl, by omega, rfl, by rw [ze]; exact p1, rfl, ?_, E.trans (E2.mono E.1)⟩⟩
    rw [nums_take hlt, ← List.append_assoc (uv ks.length), ← List.append_assoc l]
    rw [← List.length_append] at o2
    exact o2.mono E.1
  · obtain rfl : i = ks.length := by omega
    simp -implicitDefEqProofs (disch := omega) only [go_sem, p0, p1, p5, lz]
    rw [List.take_length] at o
    exact h _ _ o E
set_option maxHeartbeats 4000000 in
theorem refenc_then (U : Usual nat) {η : HN} {z : PV} {p : PD} {Q : AV → HN → Prop} (hp : IsP η z p) (hr : Res p) (ht : totN p ≤ 1000000000) (h : ∀ v η', OwnL η.nx η' v (encF p) → ExtB η.nx η η' → Q v η') :
    ∃ v η', CallN Tryd.prog nat 15 [.agg z.cells] η v η' ∧ Q v η' := by
  refine call_of (PT := pl15) Tryd.func15 rfl (U 15 (by decide)) ok15 rfl ?_
  have hxB := encB_lt hr
  unfold totN at ht
  have k1 := lst_bd p.ins
  have k2 := lst_bd p.outs
  have k3 := lst_bd p.slots
  have k4 := lst_bd p.mems
  have l5 := rdI_len hp.consts (by omega)
  have l6 := rdC_len hp.code (by omega)
  simp -implicitDefEqProofs (disch := omega) only [go_sem]
  obtain ⟨ζ0, hζ⟩ : ∃ ζ, ζ = (η.new (.live false z.cells)).new (.live false [AV.int .u8 83, .int .u8 84, .int .u8 69, .int .u8 80]) := ⟨_, rfl⟩
  have E0 : ExtB η.nx η ζ0 := by rw [hζ]; exact extN (extN (.refl _ _))
  have hn0 : ζ0.nx = η.nx + 2 := by rw [hζ]; rfl
  have f0 : ζ0.f η.nx = .live false z.cells := by rw [hζ]; show (if η.nx = η.nx + 1 then _ else if η.nx = η.nx then _ else _) = _; rw [if_neg (by omega), if_pos rfl]
  have o0 : RdA 1 ζ0 (.slice (η.nx + 1) 0 4 (.kn 4)) markB.length (u8s markB) := by
    rw [hζ]
    exact RdA.lit4 (η := η.new (.live false z.cells))
  have m0 : markB.length = 4 := rfl
  simp -implicitDefEqProofs (disch := omega) only [go_sem, ← hζ, f0]

  refine thenN_call (kinds41_then U o0 (ext_rdI hp.ins E0) (by omega) hr.ins.2 fun v1 ζ1 o1 F1 => ?_)
  have f1 := (F1.2 η.nx (by omega)).trans f0
  have n1 := F1.1
  have E1 := E0.trans (F1.mono E0.1)
  simp -implicitDefEqProofs (disch := omega) only [go_sem, f1, l5]
  refine thenN_call (kinds41_then U o1.rd (ext_rdI hp.outs E1) (by simp only [List.length_append]; omega) hr.outs.2 fun v2 ζ2 o2 F2 => ?_)
  have f2 := (F2.2 η.nx (by omega)).trans f1
  have n2 := F2.1
  have E2 := E1.trans (F2.mono E1.1)
  simp -implicitDefEqProofs (disch := omega) only [go_sem, f2, l5]
  refine thenN_call (kinds41_then U o2.rd (ext_rdI hp.slots E2) (by simp only [List.length_append]; omega) hr.slots.2 fun v3 ζ3 o3 F3 => ?_)
  have f3 := (F3.2 η.nx (by omega)).trans f2
  have n3 := F3.1
  have E3 := E2.trans (F3.mono E2.1)
  simp -implicitDefEqProofs (disch := omega) only [go_sem, f3, l5]
  refine thenN_call (kinds41_then U o3.rd (ext_rdI hp.mems E3) (by simp only [List.length_append]; omega) hr.mems.2 fun v4 ζ4 o4 F4 => ?_)
  have f4 := (F4.2 η.nx (by omega)).trans f3
  have n4 := F4.1
  have E4 := E3.trans (F4.mono E3.1)
  simp -implicitDefEqProofs (disch := omega) only [go_sem, f4, l5]
  have b5 := hr.consts
  have b6 := hr.code
  have u5 := uv_len p.consts.length
  have u6 := uv_len p.code.length
  refine thenN_call (putU_then U o4.rd (by simp only [List.length_append]; omega) (by omega) fun v5 ζ5 o5 F5 => ?_)
  have f5 := (F5.2 η.nx (by omega)).trans f4
  have n5 := F5.1
  have E5 := E4.trans (F5.mono E4.1)
  rw [← List.length_append] at o5
  have o5' := o5.mono E4.1
  have hLm : (markB ++ lst p.ins ++ lst p.outs ++ lst p.slots ++ lst p.mems).length ≤ 4 + 10 * (p.ins.length + (p.outs.length + (p.slots.length + p.mems.length))) + 40 := by simp only [List.length_append]; omega
  obtain ⟨L, hL⟩ : ∃ L, L = markB ++ lst p.ins ++ lst p.outs ++ lst p.slots ++ lst p.mems := ⟨_, rfl⟩
  rw [← hL] at hLm o5'
  simp -implicitDefEqProofs (disch := omega) only [go_sem, f5]
  obtain ⟨I, hI⟩ : ∃ I : Nat → FN → HN → Prop, ∀ m φ ζ, I m φ ζ ↔ ∃ i x, m = p.consts.length - i ∧ i ≤ p.consts.length ∧ φ 1 = .ptr η.nx 0 ∧ φ 3 = x ∧ φ 4 = .int .i64 i ∧ OwnL η.nx ζ x (L ++ (uv p.consts.length ++ nums (p.consts.take i))) ∧ ExtB η.nx η ζ ∧ ζ.f η.nx = .live false z.cells ∧ η.nx < ζ.nx := ⟨_, fun _ _ _ => Iff.rfl⟩
  refine wpN_loop I p.consts.length ((hI _ _ _).2 ⟨0, v5, rfl, Nat.zero_le _, rfl, rfl, rfl, OwnL.of o5' rfl (by simp [nums]), E5, f5, by omega⟩) ?_
  intro m φ ζ hi
  obtain ⟨i, x, hm, hi, p1, p3, p4, o, E, fz, zn⟩ := (hI _ _ _).1 hi
  have hnl := (nums_len (p.consts.take i)).2
  rw [take_len hi] at hnl
  have hlen : (L ++ (uv p.consts.length ++ nums (p.consts.take i))).length ≤ 1099511627776 := by rw [List.length_append, List.length_append]; omega
  by_cases hlt : i < p.consts.length
  · obtain ⟨b, off, cap, ro, row, ze, hb, hbn, hrr⟩ := (ext_rdI hp.consts E).at hlt
    simp -implicitDefEqProofs (disch := omega) only [go_sem, p1, p3, p4, fz, hb, hrr, ze]
    refine thenN_call (putI_then U o.rd hlen (hr.consts.2 _ (List.getElem_mem hlt)) fun v2 η2 o2 E2 => ?_)
    simp -implicitDefEqProofs (disch := omega) only [go_sem, p1, p3, p4]
    refine ⟨p.consts.length - (i + 1), by omega, (hI _ _ _).2 ⟨i + 1, v2, rfl, by omega, p1, rfl, rfl, ?_, E.trans (E2.mono E.1), (E2.2 _ zn).trans fz, by have := E2.1; omega⟩⟩
    rw [nums_take hlt, ← List.append_assoc (uv p.consts.length), ← List.append_assoc L]
    rw [← List.length_append] at o2
    exact o2.mono E.1
  obtain rfl : i = p.consts.length := by omega
  simp -implicitDefEqProofs (disch := omega) only [go_sem, p1, p3, p4, fz, l5, l6]
  rw [List.take_length] at o hnl hlen
  rw [show uv p.consts.length ++ nums p.consts = lst p.consts from rfl] at o hlen
  have hLc := lst_bd p.consts
  refine thenN_call (putU_then U o.rd hlen (by omega) fun v6 ζ6 o6 F6 => ?_)
  have f6 := (F6.2 η.nx zn).trans fz
  have n6 := F6.1
  have E6 := E.trans (F6.mono E.1)
  rw [← List.length_append] at o6
  have o6' := o6.mono E.1
  have hKm : (L ++ lst p.consts).length ≤ 44 + 10 * (p.ins.length + (p.outs.length + (p.slots.length + p.mems.length))) + (10 * p.consts.length + 10) := by rw [List.length_append]; omega
  obtain ⟨K, hK⟩ : ∃ K, K = L ++ lst p.consts := ⟨_, rfl⟩
  rw [← hK] at hKm o6'
  clear hI
  simp -implicitDefEqProofs (disch := omega) only [go_sem, p1, f6]
  obtain ⟨J, hJ⟩ : ∃ J : Nat → FN → HN → Prop, ∀ m φ ζ, J m φ ζ ↔ ∃ i x, m = p.code.length - i ∧ i ≤ p.code.length ∧ φ 1 = .ptr η.nx 0 ∧ φ 3 = x ∧ φ 5 = .int .i64 i ∧ OwnL η.nx ζ x (K ++ (uv p.code.length ++ nums (flds (p.code.take i)))) ∧ ExtB η.nx η ζ ∧ ζ.f η.nx = .live false z.cells ∧ η.nx < ζ.nx := ⟨_, fun _ _ _ => Iff.rfl⟩
  refine wpN_loop J p.code.length ((hJ _ _ _).2 ⟨0, v6, rfl, Nat.zero_le _, p1, rfl, rfl, OwnL.of o6' rfl (by simp [nums, flds]), E6, f6, by omega⟩) ?_
  clear o6 o6' f6 E6 F6 n6 o fz E p1 p3 p4 hm hnl hi zn
  intro m φ ζ hi
  obtain ⟨i, x, hm, hi, p1, p3, p5, o, E, fz, zn⟩ := (hJ _ _ _).1 hi
  have hnl := (nums_len (flds (p.code.take i))).2
  rw [flds_len, take_len hi] at hnl
  have hlen : (K ++ (uv p.code.length ++ nums (flds (p.code.take i)))).length + 50 ≤ 1099511627776 := by rw [List.length_append, List.length_append]; omega
  by_cases hlt : i < p.code.length
  · obtain ⟨b, off, cap, ro, row, ze, hb, hbn, hrl, hrr⟩ := rdC_at (RdR.ext (base := η.nx) hp.code E) hlt
    obtain ⟨hu0, hu1, hu2, hu3⟩ := hr.code.2 _ (List.getElem_mem hlt)
    have ft := flds_take hlt
    have u0 := uv_len (zz p.code[i].op)
    have u1 := uv_len (zz p.code[i].a)
    have u2 := uv_len (zz p.code[i].b)
    have u3 := uv_len (zz p.code[i].c)
    have hcl : (Ins.cells p.code[i]).length = 4 := rfl
    generalize p.code[i] = w at *
    obtain ⟨op, a, b', c⟩ := w
    dsimp only at *
    unfold Ins.cells at hrr hcl
    dsimp only at hrr
    simp -implicitDefEqProofs (disch := omega) only [go_sem, p1, p3, p5, fz, hb, hrr, ze]
    obtain ⟨ξ0, hξ⟩ : ∃ ξ, ξ = (ζ.new (.live false [AV.int .i64 0, .int .i64 0, .int .i64 0, .int .i64 0])).put ζ.nx (.live false [AV.int .i64 op, .int .i64 a, .int .i64 b', .int .i64 c]) := ⟨_, rfl⟩
    have X0 : ExtB ζ.nx ζ ξ0 := by rw [hξ]; exact extP (extN (.refl _ _))
    have xn0 : ξ0.nx = ζ.nx + 1 := by rw [hξ]; rfl
    have x0 : ξ0.f ζ.nx = .live false [AV.int .i64 op, .int .i64 a, .int .i64 b', .int .i64 c] := by rw [hξ]; show (if ζ.nx = ζ.nx then _ else _) = _; rw [if_pos rfl]
    simp -implicitDefEqProofs (disch := omega) only [go_sem, p1, p3, p5, ← hξ, x0]
    refine thenN_call (putI_then U (o.rd.ext X0) (by omega) hu0 fun w1 ξ1 q1 X1 => ?_)
    have x1 := (X1.2 ζ.nx (by omega)).trans x0
    have xn1 := X1.1
    rw [← List.length_append] at q1
    simp -implicitDefEqProofs (disch := omega) only [go_sem, p1, p3, p5, x1]
    refine thenN_call (putI_then U q1.rd (by rw [List.length_append]; omega) hu1 fun w2 ξ2 q2 X2 => ?_)
    have x2 := (X2.2 ζ.nx (by omega)).trans x1
    have xn2 := X2.1
    rw [← List.length_append] at q2
    simp -implicitDefEqProofs (disch := omega) only [go_sem, p1, p3, p5, x2]
    refine thenN_call (putI_then U q2.rd (by rw [List.length_append, List.length_append]; omega) hu2 fun w3 ξ3 q3 X3 => ?_)
    have x3 := (X3.2 ζ.nx (by omega)).trans x2
    have xn3 := X3.1
    rw [← List.length_append] at q3
    simp -implicitDefEqProofs (disch := omega) only [go_sem, p1, p3, p5, x3]
    refine thenN_call (putI_then U q3.rd (by rw [List.length_append, List.length_append, List.length_append]; omega) hu3 fun w4 ξ4 q4 X4 => ?_)
    have xn4 := X4.1
    rw [← List.length_append] at q4
    simp -implicitDefEqProofs (disch := omega) only [go_sem, p1, p3, p5]
    have XX : ExtB ζ.nx ζ ξ4 := X0.trans ((X1.mono (by omega)).trans ((X2.mono (by omega)).trans ((X3.mono (by omega)).trans (X4.mono (by omega)))))
    refine ⟨p.code.length - (i + 1), by omega, (hJ _ _ _).2 ⟨i + 1, w4, rfl, by omega, p1, rfl, rfl, ?_, E.trans (XX.mono E.1), (XX.2 _ zn).trans fz, by omega⟩⟩
    rw [ft]
    have e : K ++ (uv p.code.length ++ (nums (flds (p.code.take i)) ++ (uv (zz op) ++ (uv (zz a) ++ (uv (zz b') ++ uv (zz c)))))) = ((((K ++ (uv p.code.length ++ nums (flds (p.code.take i)))) ++ uv (zz op)) ++ uv (zz a)) ++ uv (zz b')) ++ uv (zz c) := by simp only [List.append_assoc]
    rw [e]
    exact q4.mono (by have := E.1; omega)
  obtain rfl : i = p.code.length := by omega
  rw [List.take_length] at o hnl hlen
  have eB : K ++ (uv p.code.length ++ nums (flds p.code)) = encB p := by rw [hK, hL]; unfold encB tailB lstC; simp only [List.append_assoc]
  rw [eB] at o hlen
  simp -implicitDefEqProofs (disch := omega) only [go_sem, p1, p3, p5, fz, l6]
  refine thenN_call ⟨_, _, refcrc_call U o.rd hxB (by omega), ?_⟩
  have hs := crcF_lt hxB
  simp -implicitDefEqProofs (disch := omega) only [go_sem]
  refine thenN_call (low_then U hs fun v7 ζ7 o7 F7 => ?_)
  simp -implicitDefEqProofs (disch := omega) only [go_sem]
  refine thenN_app (base := η.nx) (by decide) (o.ext F7) o7 (by omega) (by have := F7.1; omega) fun x8 ζ8 o8 F8 => ?_
  simp -implicitDefEqProofs (disch := omega) only [go_sem]
  have hl : (encB p).length + 4 = (encF p).length := by unfold encF; rw [List.length_append]; rfl
  have e8 : u8s (encB p) ++ u8s (low4 (crcF (encB p))) = u8s (encF p) := by unfold encF; rw [u8s_app]
  rw [hl, e8] at o8
  exact h _ _ o8 ((E.trans (F7.mono E.1)).trans F8)
end Go.Proofs.YtjljolnhmmbkoaaDoor
namespace Go.Proofs.YtjljolnhmmbkoaaDoor
open Go.Eng Go.Plain
set_option autoImplicit false
set_option maxRecDepth 100000
variable {nat : ∀ [Deep], Nats}
/-- all blocks but a reader's are as they were -/
def KpR (rp : Nat) (η η' : HN) : Prop := η.nx ≤ η'.nx ∧ ∀ b, b < η.nx → b ≠ rp → η'.f b = η.f b
theorem KpR.refl (rp : Nat) (η : HN) : KpR rp η η := ⟨Nat.le_refl _, fun _ _ _ => rfl⟩
theorem KpR.trans {rp : Nat} {η η' η'' : HN} (h : KpR rp η η') (k : KpR rp η' η'') : KpR rp η η'' := ⟨Nat.le_trans h.1 k.1, fun b hb hr => (k.2 b (Nat.lt_of_lt_of_le hb h.1) hr).trans (h.2 b hb hr)⟩
theorem KpR.ofExt {rp : Nat} {η η' : HN} (h : ExtB η.nx η η') : KpR rp η η' := ⟨h.1, fun b hb _ => h.2 b hb⟩
theorem KpR.ofRd {rp : Nat} {η η' : HN} (n : η.nx = η'.nx) (k : ∀ b, b ≠ rp → η'.f b = η.f b) : KpR rp η η' := ⟨Nat.le_of_eq n, fun b _ hr => k b hr⟩
theorem OwnA.keep {s base n : Nat} {η η' : HN} {x : AV} {l : List AV} (h : OwnA s base η x n l) (hn : η.nx ≤ η'.nx) (k : ∀ b, base ≤ b → b < η.nx → η'.f b = η.f b) : OwnA s base η' x n l := by
  obtain ⟨h0, h | ⟨b, h1, h2, h3⟩⟩ := h
  · exact ⟨h0, .inl h⟩
  · refine ⟨h0, .inr ⟨b, h1, by omega, ?_⟩⟩
    rw [k b h1 h2]; exact h3
theorem OwnA.keepR {s base n rp : Nat} {η η' : HN} {x : AV} {l : List AV} (h : OwnA s base η x n l) (k : KpR rp η η') (hb : rp < base) : OwnA s base η' x n l := OwnA.keep h k.1 fun b h1 h2 => k.2 b h2 (by omega)
theorem clos22_then (U : Usual nat) {η : HN} {cp rp : Nat} {ro : Bool} {l : List Nat} {bad : Bool} {Q : AV → HN → Prop} (R : RdrAt η rp l bad) (hc : η.f cp = .live ro [.ptr rp 0]) (hx : ∀ x ∈ l, x < 256) (hl : l.length ≤ 9223372036854775807)
    (h : ∀ η', RdrAt η' rp (rdG l bad).2.1 (rdG l bad).2.2 → η.nx = η'.nx → (∀ b, b ≠ rp → η'.f b = η.f b) → Q (.int .i64 (uz (rdG l bad).1)) η') : ∃ v η', CallN Tryd.prog nat 22 [.ptr cp 0] η v η' ∧ Q v η' := by
  refine call_of (PT := pl22) Tryd.func22 rfl (U 22 (by decide)) ok22 rfl ?_
  simp -implicitDefEqProofs (disch := omega) only [go_sem, hc]
  refine thenN_call (rdrI_then U R hx hl fun η' R' n k => ?_)
  simp -implicitDefEqProofs (disch := omega) only [go_sem]
  exact h η' R' n k
theorem clos24_then (U : Usual nat) {η : HN} {cp rp : Nat} {ro : Bool} {l : List Nat} {bad : Bool} {Q : AV → HN → Prop} (R : RdrAt η rp l bad) (hc : η.f cp = .live ro [.ptr rp 0]) (hx : ∀ x ∈ l, x < 256) (hl : l.length ≤ 9223372036854775807)
    (h : ∀ η', RdrAt η' rp (rdG l bad).2.1 (rdG l bad).2.2 → η.nx = η'.nx → (∀ b, b ≠ rp → η'.f b = η.f b) → Q (.int .i64 (uz (rdG l bad).1)) η') : ∃ v η', CallN Tryd.prog nat 24 [.ptr cp 0] η v η' ∧ Q v η' := by
  refine call_of (PT := pl24) Tryd.func24 rfl (U 24 (by decide)) ok24 rfl ?_
  simp -implicitDefEqProofs (disch := omega) only [go_sem, hc]
  refine thenN_call (rdrI_then U R hx hl fun η' R' n k => ?_)
  simp -implicitDefEqProofs (disch := omega) only [go_sem]
  exact h η' R' n k
theorem clos28_then (U : Usual nat) {η : HN} {dp cp rp : Nat} {ro ro' : Bool} {l : List Nat} {bad : Bool} {Q : AV → HN → Prop} (R : RdrAt η rp l bad) (hd : η.f dp = .live ro' [.func 24 [] [.ptr cp 0]]) (hc : η.f cp = .live ro [.ptr rp 0]) (hdr : dp ≠ rp) (hcr : cp ≠ rp) (hdn : dp < η.nx) (hcn : cp < η.nx) (hx : ∀ x ∈ l, x < 256) (hl : l.length ≤ 9223372036854775807)
    (h : ∀ a b c d η', rdC 1 l bad = ([⟨a, b, c, d⟩], (rdC 1 l bad).2) → RdrAt η' rp (rdC 1 l bad).2.1 (rdC 1 l bad).2.2 → KpR rp η η' → Q (.agg [.int .i64 a, .int .i64 b, .int .i64 c, .int .i64 d]) η') : ∃ v η', CallN Tryd.prog nat 28 [.ptr dp 0] η v η' ∧ Q v η' := by
  refine call_of (PT := pl28) Tryd.func28 rfl (U 28 (by decide)) ok28 rfl ?_
  obtain ⟨ζ0, hζ⟩ : ∃ ζ, ζ = η.new (.live false [AV.int .i64 0, .int .i64 0, .int .i64 0, .int .i64 0]) := ⟨_, rfl⟩
  have E0 : ExtB η.nx η ζ0 := by rw [hζ]; exact extN (.refl _ _)
  have hn0 : ζ0.nx = η.nx + 1 := by rw [hζ]; rfl
  have d0 := (E0.2 dp hdn).trans hd
  have c0 := (E0.2 cp hcn).trans hc
  have R0 := R.keep E0
  simp -implicitDefEqProofs (disch := omega) only [go_sem, ← hζ, d0]
  have hrp : rp < η.nx := by obtain ⟨_, _, h, _⟩ := R; exact h
  have hx1 : ∀ x ∈ (rdG l bad).2.1, x < 256 := fun x h => hx x (rdG_rest _ _ x h)
  have hl1 := rdG_len l bad
  refine dE_call (clos24_then U R0 c0 hx hl fun ζ1 R1 n1 k1 => ?_)
  have d1 := (k1 dp hdr).trans d0
  have c1 := (k1 cp hcr).trans c0
  have t1 : ζ1.f η.nx = .live false [AV.int .i64 0, .int .i64 0, .int .i64 0, .int .i64 0] := (k1 η.nx (by omega)).trans (by rw [hζ]; show (if η.nx = η.nx then _ else _) = _; rw [if_pos rfl])
  simp -implicitDefEqProofs (disch := omega) only [go_sem, d0, d1]
  generalize h1 : rdG l bad = g1 at *
  have hx2 : ∀ x ∈ (rdG g1.2.1 g1.2.2).2.1, x < 256 := fun x h => hx1 x (rdG_rest _ _ x h)
  have hl2 := rdG_len g1.2.1 g1.2.2
  refine dE_call (clos24_then U R1 c1 hx1 (by omega) fun ζ2 R2 n2 k2 => ?_)
  have d2 := (k2 dp hdr).trans d1
  have c2 := (k2 cp hcr).trans c1
  have t2 := (k2 η.nx (by omega)).trans t1
  simp -implicitDefEqProofs (disch := omega) only [go_sem, d0, d1, d2]
  generalize h2 : rdG g1.2.1 g1.2.2 = g2 at *
  have hx3 : ∀ x ∈ (rdG g2.2.1 g2.2.2).2.1, x < 256 := fun x h => hx2 x (rdG_rest _ _ x h)
  have hl3 := rdG_len g2.2.1 g2.2.2
  refine dE_call (clos24_then U R2 c2 hx2 (by omega) fun ζ3 R3 n3 k3 => ?_)
  have d3 := (k3 dp hdr).trans d2
  have c3 := (k3 cp hcr).trans c2
  have t3 := (k3 η.nx (by omega)).trans t2
  simp -implicitDefEqProofs (disch := omega) only [go_sem, d0, d1, d2, d3]
  generalize h3 : rdG g2.2.1 g2.2.2 = g3 at *
  refine dE_call (clos24_then U R3 c3 hx3 (by omega) fun ζ4 R4 n4 k4 => ?_)
  have d4 := (k4 dp hdr).trans d3
  have t4 := (k4 η.nx (by omega)).trans t3
  simp -implicitDefEqProofs (disch := omega) only [go_sem, d0, d1, d2, d3, d4, t4]
  generalize h4 : rdG g3.2.1 g3.2.2 = g4 at *
  have e : rdC 1 l bad = ([⟨uz g1.1, uz g2.1, uz g3.1, uz g4.1⟩], g4.2) := by
    have := rdC_s 0 l bad
    have z0 : rdC 0 l bad = ([], l, bad) := rfl
    rw [z0] at this
    dsimp only at this
    rw [h1, h2, h3, h4] at this
    exact this
  have kk : ∀ b, b < η.nx → b ≠ rp → ζ4.f b = η.f b := fun b hb hr => (k4 b hr).trans ((k3 b hr).trans ((k2 b hr).trans ((k1 b hr).trans (E0.2 b hb))))
  refine h _ _ _ _ _ (by rw [e]) ?_ ⟨by show η.nx ≤ ζ4.nx; omega, fun b hb hr => by show (if b = η.nx then _ else _) = _; rw [if_neg (by omega)]; exact kk b hb hr⟩
  rw [e]
  exact R4.keepB (Nat.le_refl _) fun b hb => by show (if b = η.nx then _ else _) = _; rw [if_neg (by omega)]
theorem RdA.lit14 {η : HN} {a b c d : AV} {cp : Cp} : RdA 4 (η.new (.live false [a, b, c, d])) (.slice η.nx 0 1 cp) 1 [a, b, c, d] := .inr ⟨η.nx, 0, cp, false, [a, b, c, d], rfl, by show (if η.nx = η.nx then _ else _) = _; rw [if_pos rfl], Nat.lt_succ_self _, Nat.le_refl _, rfl, rfl⟩
theorem rowsC_app (l m : List Ins) : rowsC (l ++ m) = rowsC l ++ rowsC m := by unfold rowsC; rw [List.map_append, List.flatten_append]
set_option maxHeartbeats 1000000 in
theorem get25_then (U : Usual nat) {η : HN} {rp : Nat} {l : List Nat} {bad : Bool} {Q : AV → HN → Prop} (R : RdrAt η rp l bad) {cp : Nat} {ro : Bool} (hc : η.f cp = .live ro [.ptr rp 0]) (hcr : cp ≠ rp) (hcn : cp < η.nx) (hx : ∀ x ∈ l, x < 256) (hl : l.length ≤ 1000000000)
    (h : ∀ v η', OwnA 1 η.nx η' v (getN l bad).1.length ((getN l bad).1.map (.int .i64)) → RdrAt η' rp (getN l bad).2.1 (getN l bad).2.2 → KpR rp η η' → Q v η') : ∃ v η', CallN Tryd.prog nat 25 [.ptr rp 0, .func 22 [] [.ptr cp 0]] η v η' ∧ Q v η' := by
  refine call_of (PT := pl25) Tryd.func25 rfl (U 25 (by decide)) ok25 rfl ?_
  have hrp : rp < η.nx := by obtain ⟨_, _, h, _⟩ := R; exact h
  have R' := R
  simp -implicitDefEqProofs (disch := omega) only [go_sem]
  refine thenN_call (rdrU_then U R' hx (by omega) fun η1 R1 n1 k1 => ?_)
  have hv := rdG_lt l bad
  have hl1 := rdG_len l bad
  have hx1 : ∀ x ∈ (rdG l bad).2.1, x < 256 := fun x h => hx x (rdG_rest _ _ x h)
  unfold getN at h
  have K1 : KpR rp η η1 := .ofRd n1 k1
  clear R R'
  generalize rdG l bad = g at *
  obtain ⟨n0, l1, bad1⟩ := g
  dsimp only at *
  simp -implicitDefEqProofs (disch := omega) only [go_sem]
  refine thenN_call ⟨_, _, left_call U R1 (by omega), ?_⟩
  obtain ⟨n, hn⟩ : ∃ n, n = cutN n0 l1.length := ⟨_, rfl⟩
  rw [← hn] at h
  have hnl := cutN_le n0 l1.length
  rw [← hn] at hnl
  by_cases hc0 : l1.length < n0
  · have hn1 : n = l1.length + 1 := by rw [hn]; exact if_pos hc0
    simp -implicitDefEqProofs (disch := omega) only [go_sem]
    refine thenN_call ⟨_, _, left_call U R1 (by omega), ?_⟩
    simp -implicitDefEqProofs (disch := omega) only [go_sem]
    obtain ⟨I, hI⟩ : ∃ I : Nat → FN → HN → Prop, ∀ m φ ζ, I m φ ζ ↔ ∃ i x, m = n - i ∧ i ≤ n ∧ φ 1 = .func 22 [] [.ptr cp 0] ∧ φ 6 = x ∧ φ 18 = .int .u64 n ∧ φ 19 = .int .u64 i ∧ OwnA 1 η.nx ζ x i ((rdN i l1 bad1).1.map (.int .i64)) ∧ RdrAt ζ rp (rdN i l1 bad1).2.1 (rdN i l1 bad1).2.2 ∧ KpR rp η ζ := ⟨_, fun _ _ _ => Iff.rfl⟩
    refine wpN_loop I n ((hI _ _ _).2 ⟨0, .nilslice, rfl, Nat.zero_le _, rfl, rfl, by rw [hn1]; rfl, rfl, OwnA.nil, R1, K1⟩) ?_
    intro m φ ζ hi
    obtain ⟨i, x, hm, hi, p1, p6, p18, p19, o, R, K⟩ := (hI _ _ _).1 hi
    have nK := K.1
    by_cases hlt : i < n
    · have hr := rdN_rest i l1 bad1
      simp -implicitDefEqProofs (disch := omega) only [go_sem, p1, p6, p18, p19]
      refine thenN_call (clos22_then U R ((K.2 cp hcn hcr).trans hc) (fun x h => hx1 x (hr.1 x h)) (by omega) fun ζ2 R2 n2 k2 => ?_)
      have K2 := KpR.ofRd n2 k2
      have hs := rdN_s i l1 bad1
      have nK2 := K2.1
      simp -implicitDefEqProofs (disch := omega) only [go_sem, p1, p6, p18, p19]
      refine thenN_app (w := 8) (base := η.nx) (by decide) ((OwnA.keepR o K2 hrp).ext (.new (Nat.le_refl _))) (RdA.lit (c := .kn 1)) (by omega) (by show η.nx ≤ ζ2.nx + 1; omega) fun x3 ζ3 o3 E3 => ?_
      have n3 : ζ2.nx + 1 ≤ ζ3.nx := E3.1
      have g3 : ∀ b, b < η.nx → ζ3.f b = ζ2.f b := fun b hb => (E3.2 b hb).trans (by show (if b = ζ2.nx then _ else _) = _; rw [if_neg (by omega)])
      simp -implicitDefEqProofs (disch := omega) only [go_sem, p1, p6, p18, p19]
      refine ⟨n - (i + 1), by omega, (hI _ _ _).2 ⟨i + 1, x3, rfl, by omega, p1, rfl, p18, rfl, ?_, ?_, ⟨by omega, fun b hb hr => (g3 b hb).trans ((K2.2 b (by omega) hr).trans (K.2 b hb hr))⟩⟩⟩
      · rw [hs]
        dsimp only
        rw [List.map_append]
        exact o3
      · rw [hs]
        exact R2.keepB (by omega) fun b hb => g3 b (by omega)
    · obtain rfl : i = n := by omega
      simp -implicitDefEqProofs (disch := omega) only [go_sem, p1, p6, p18, p19]
      refine h _ _ ?_ R K
      rw [Go.Plain.rdN_len]
      exact o
  · have hn1 : n = n0 := by rw [hn]; exact if_neg hc0
    simp -implicitDefEqProofs (disch := omega) only [go_sem]
    obtain ⟨I, hI⟩ : ∃ I : Nat → FN → HN → Prop, ∀ m φ ζ, I m φ ζ ↔ ∃ i x, m = n - i ∧ i ≤ n ∧ φ 1 = .func 22 [] [.ptr cp 0] ∧ φ 6 = x ∧ φ 18 = .int .u64 n ∧ φ 19 = .int .u64 i ∧ OwnA 1 η.nx ζ x i ((rdN i l1 bad1).1.map (.int .i64)) ∧ RdrAt ζ rp (rdN i l1 bad1).2.1 (rdN i l1 bad1).2.2 ∧ KpR rp η ζ := ⟨_, fun _ _ _ => Iff.rfl⟩
    refine wpN_loop I n ((hI _ _ _).2 ⟨0, .nilslice, rfl, Nat.zero_le _, rfl, rfl, by rw [hn1]; rfl, rfl, OwnA.nil, R1, K1⟩) ?_
    intro m φ ζ hi
    obtain ⟨i, x, hm, hi, p1, p6, p18, p19, o, R, K⟩ := (hI _ _ _).1 hi
    have nK := K.1
    by_cases hlt : i < n
    · have hr := rdN_rest i l1 bad1
      simp -implicitDefEqProofs (disch := omega) only [go_sem, p1, p6, p18, p19]
      refine thenN_call (clos22_then U R ((K.2 cp hcn hcr).trans hc) (fun x h => hx1 x (hr.1 x h)) (by omega) fun ζ2 R2 n2 k2 => ?_)
      have K2 := KpR.ofRd n2 k2
      have hs := rdN_s i l1 bad1
      have nK2 := K2.1
      simp -implicitDefEqProofs (disch := omega) only [go_sem, p1, p6, p18, p19]
      refine thenN_app (w := 8) (base := η.nx) (by decide) ((OwnA.keepR o K2 hrp).ext (.new (Nat.le_refl _))) (RdA.lit (c := .kn 1)) (by omega) (by show η.nx ≤ ζ2.nx + 1; omega) fun x3 ζ3 o3 E3 => ?_
      have n3 : ζ2.nx + 1 ≤ ζ3.nx := E3.1
      have g3 : ∀ b, b < η.nx → ζ3.f b = ζ2.f b := fun b hb => (E3.2 b hb).trans (by show (if b = ζ2.nx then _ else _) = _; rw [if_neg (by omega)])
      simp -implicitDefEqProofs (disch := omega) only [go_sem, p1, p6, p18, p19]
      refine ⟨n - (i + 1), by omega, (hI _ _ _).2 ⟨i + 1, x3, rfl, by omega, p1, rfl, p18, rfl, ?_, ?_, ⟨by omega, fun b hb hr => (g3 b hb).trans ((K2.2 b (by omega) hr).trans (K.2 b hb hr))⟩⟩⟩
      · rw [hs]
        dsimp only
        rw [List.map_append]
        exact o3
      · rw [hs]
        exact R2.keepB (by omega) fun b hb => g3 b (by omega)
    · obtain rfl : i = n := by omega
      simp -implicitDefEqProofs (disch := omega) only [go_sem, p1, p6, p18, p19]
      refine h _ _ ?_ R K
      rw [Go.Plain.rdN_len]
      exact o
set_option maxHeartbeats 1000000 in
theorem get26_then (U : Usual nat) {η : HN} {rp : Nat} {l : List Nat} {bad : Bool} {Q : AV → HN → Prop} (R : RdrAt η rp l bad) (hx : ∀ x ∈ l, x < 256) (hl : l.length ≤ 1000000000)
    (h : ∀ v η', OwnA 1 η.nx η' v (getN l bad).1.length ((getN l bad).1.map (.int .i64)) → RdrAt η' rp (getN l bad).2.1 (getN l bad).2.2 → KpR rp η η' → Q v η') : ∃ v η', CallN Tryd.prog nat 26 [.ptr rp 0, .func 23 [.ptr rp 0] []] η v η' ∧ Q v η' := by
  refine call_of (PT := pl26) Tryd.func26 rfl (U 26 (by decide)) ok26 rfl ?_
  have hrp : rp < η.nx := by obtain ⟨_, _, h, _⟩ := R; exact h
  have R' := R
  simp -implicitDefEqProofs (disch := omega) only [go_sem]
  refine thenN_call (rdrU_then U R' hx (by omega) fun η1 R1 n1 k1 => ?_)
  have hv := rdG_lt l bad
  have hl1 := rdG_len l bad
  have hx1 : ∀ x ∈ (rdG l bad).2.1, x < 256 := fun x h => hx x (rdG_rest _ _ x h)
  unfold getN at h
  have K1 : KpR rp η η1 := .ofRd n1 k1
  clear R R'
  generalize rdG l bad = g at *
  obtain ⟨n0, l1, bad1⟩ := g
  dsimp only at *
  simp -implicitDefEqProofs (disch := omega) only [go_sem]
  refine thenN_call ⟨_, _, left_call U R1 (by omega), ?_⟩
  obtain ⟨n, hn⟩ : ∃ n, n = cutN n0 l1.length := ⟨_, rfl⟩
  rw [← hn] at h
  have hnl := cutN_le n0 l1.length
  rw [← hn] at hnl
  by_cases hc0 : l1.length < n0
  · have hn1 : n = l1.length + 1 := by rw [hn]; exact if_pos hc0
    simp -implicitDefEqProofs (disch := omega) only [go_sem]
    refine thenN_call ⟨_, _, left_call U R1 (by omega), ?_⟩
    simp -implicitDefEqProofs (disch := omega) only [go_sem]
    obtain ⟨I, hI⟩ : ∃ I : Nat → FN → HN → Prop, ∀ m φ ζ, I m φ ζ ↔ ∃ i x, m = n - i ∧ i ≤ n ∧ φ 1 = .func 23 [.ptr rp 0] [] ∧ φ 6 = x ∧ φ 18 = .int .u64 n ∧ φ 19 = .int .u64 i ∧ OwnA 1 η.nx ζ x i ((rdN i l1 bad1).1.map (.int .i64)) ∧ RdrAt ζ rp (rdN i l1 bad1).2.1 (rdN i l1 bad1).2.2 ∧ KpR rp η ζ := ⟨_, fun _ _ _ => Iff.rfl⟩
    refine wpN_loop I n ((hI _ _ _).2 ⟨0, .nilslice, rfl, Nat.zero_le _, rfl, rfl, by rw [hn1]; rfl, rfl, OwnA.nil, R1, K1⟩) ?_
    intro m φ ζ hi
    obtain ⟨i, x, hm, hi, p1, p6, p18, p19, o, R, K⟩ := (hI _ _ _).1 hi
    have nK := K.1
    by_cases hlt : i < n
    · have hr := rdN_rest i l1 bad1
      simp -implicitDefEqProofs (disch := omega) only [go_sem, p1, p6, p18, p19]
      refine thenN_call (rdrI_then U R (fun x h => hx1 x (hr.1 x h)) (by omega) fun ζ2 R2 n2 k2 => ?_)
      have K2 := KpR.ofRd n2 k2
      have hs := rdN_s i l1 bad1
      have nK2 := K2.1
      simp -implicitDefEqProofs (disch := omega) only [go_sem, p1, p6, p18, p19]
      refine thenN_app (w := 8) (base := η.nx) (by decide) ((OwnA.keepR o K2 hrp).ext (.new (Nat.le_refl _))) (RdA.lit (c := .kn 1)) (by omega) (by show η.nx ≤ ζ2.nx + 1; omega) fun x3 ζ3 o3 E3 => ?_
      have n3 : ζ2.nx + 1 ≤ ζ3.nx := E3.1
      have g3 : ∀ b, b < η.nx → ζ3.f b = ζ2.f b := fun b hb => (E3.2 b hb).trans (by show (if b = ζ2.nx then _ else _) = _; rw [if_neg (by omega)])
      simp -implicitDefEqProofs (disch := omega) only [go_sem, p1, p6, p18, p19]
      refine ⟨n - (i + 1), by omega, (hI _ _ _).2 ⟨i + 1, x3, rfl, by omega, p1, rfl, p18, rfl, ?_, ?_, ⟨by omega, fun b hb hr => (g3 b hb).trans ((K2.2 b (by omega) hr).trans (K.2 b hb hr))⟩⟩⟩
      · rw [hs]
        dsimp only
        rw [List.map_append]
        exact o3
      · rw [hs]
        exact R2.keepB (by omega) fun b hb => g3 b (by omega)
    · obtain rfl : i = n := by omega
      simp -implicitDefEqProofs (disch := omega) only [go_sem, p1, p6, p18, p19]
      refine h _ _ ?_ R K
      rw [Go.Plain.rdN_len]
      exact o
  · have hn1 : n = n0 := by rw [hn]; exact if_neg hc0
    simp -implicitDefEqProofs (disch := omega) only [go_sem]
    obtain ⟨I, hI⟩ : ∃ I : Nat → FN → HN → Prop, ∀ m φ ζ, I m φ ζ ↔ ∃ i x, m = n - i ∧ i ≤ n ∧ φ 1 = .func 23 [.ptr rp 0] [] ∧ φ 6 = x ∧ φ 18 = .int .u64 n ∧ φ 19 = .int .u64 i ∧ OwnA 1 η.nx ζ x i ((rdN i l1 bad1).1.map (.int .i64)) ∧ RdrAt ζ rp (rdN i l1 bad1).2.1 (rdN i l1 bad1).2.2 ∧ KpR rp η ζ := ⟨_, fun _ _ _ => Iff.rfl⟩
    refine wpN_loop I n ((hI _ _ _).2 ⟨0, .nilslice, rfl, Nat.zero_le _, rfl, rfl, by rw [hn1]; rfl, rfl, OwnA.nil, R1, K1⟩) ?_
    intro m φ ζ hi
    obtain ⟨i, x, hm, hi, p1, p6, p18, p19, o, R, K⟩ := (hI _ _ _).1 hi
    have nK := K.1
    by_cases hlt : i < n
    · have hr := rdN_rest i l1 bad1
      simp -implicitDefEqProofs (disch := omega) only [go_sem, p1, p6, p18, p19]
      refine thenN_call (rdrI_then U R (fun x h => hx1 x (hr.1 x h)) (by omega) fun ζ2 R2 n2 k2 => ?_)
      have K2 := KpR.ofRd n2 k2
      have hs := rdN_s i l1 bad1
      have nK2 := K2.1
      simp -implicitDefEqProofs (disch := omega) only [go_sem, p1, p6, p18, p19]
      refine thenN_app (w := 8) (base := η.nx) (by decide) ((OwnA.keepR o K2 hrp).ext (.new (Nat.le_refl _))) (RdA.lit (c := .kn 1)) (by omega) (by show η.nx ≤ ζ2.nx + 1; omega) fun x3 ζ3 o3 E3 => ?_
      have n3 : ζ2.nx + 1 ≤ ζ3.nx := E3.1
      have g3 : ∀ b, b < η.nx → ζ3.f b = ζ2.f b := fun b hb => (E3.2 b hb).trans (by show (if b = ζ2.nx then _ else _) = _; rw [if_neg (by omega)])
      simp -implicitDefEqProofs (disch := omega) only [go_sem, p1, p6, p18, p19]
      refine ⟨n - (i + 1), by omega, (hI _ _ _).2 ⟨i + 1, x3, rfl, by omega, p1, rfl, p18, rfl, ?_, ?_, ⟨by omega, fun b hb hr => (g3 b hb).trans ((K2.2 b (by omega) hr).trans (K.2 b hb hr))⟩⟩⟩
      · rw [hs]
        dsimp only
        rw [List.map_append]
        exact o3
      · rw [hs]
        exact R2.keepB (by omega) fun b hb => g3 b (by omega)
    · obtain rfl : i = n := by omega
      simp -implicitDefEqProofs (disch := omega) only [go_sem, p1, p6, p18, p19]
      refine h _ _ ?_ R K
      rw [Go.Plain.rdN_len]
      exact o
set_option maxHeartbeats 1000000 in
theorem get27_then (U : Usual nat) {η : HN} {rp : Nat} {l : List Nat} {bad : Bool} {Q : AV → HN → Prop} (R : RdrAt η rp l bad) {cp dp : Nat} {ro ro' : Bool} (hd : η.f dp = .live ro' [.func 24 [] [.ptr cp 0]]) (hdr : dp ≠ rp) (hdn : dp < η.nx) (hc : η.f cp = .live ro [.ptr rp 0]) (hcr : cp ≠ rp) (hcn : cp < η.nx) (hx : ∀ x ∈ l, x < 256) (hl : l.length ≤ 1000000000)
    (h : ∀ v η', OwnA 4 η.nx η' v (getC l bad).1.length (rowsC (getC l bad).1) → RdrAt η' rp (getC l bad).2.1 (getC l bad).2.2 → KpR rp η η' → Q v η') : ∃ v η', CallN Tryd.prog nat 27 [.ptr rp 0, .func 28 [] [.ptr dp 0]] η v η' ∧ Q v η' := by
  refine call_of (PT := pl27) Tryd.func27 rfl (U 27 (by decide)) ok27 rfl ?_
  have hrp : rp < η.nx := by obtain ⟨_, _, h, _⟩ := R; exact h
  have R' := R
  simp -implicitDefEqProofs (disch := omega) only [go_sem]
  refine thenN_call (rdrU_then U R' hx (by omega) fun η1 R1 n1 k1 => ?_)
  have hv := rdG_lt l bad
  have hl1 := rdG_len l bad
  have hx1 : ∀ x ∈ (rdG l bad).2.1, x < 256 := fun x h => hx x (rdG_rest _ _ x h)
  unfold getC at h
  have K1 : KpR rp η η1 := .ofRd n1 k1
  clear R R'
  generalize rdG l bad = g at *
  obtain ⟨n0, l1, bad1⟩ := g
  dsimp only at *
  simp -implicitDefEqProofs (disch := omega) only [go_sem]
  refine thenN_call ⟨_, _, left_call U R1 (by omega), ?_⟩
  obtain ⟨n, hn⟩ : ∃ n, n = cutN n0 l1.length := ⟨_, rfl⟩
  rw [← hn] at h
  have hnl := cutN_le n0 l1.length
  rw [← hn] at hnl
  by_cases hc0 : l1.length < n0
  · have hn1 : n = l1.length + 1 := by rw [hn]; exact if_pos hc0
    simp -implicitDefEqProofs (disch := omega) only [go_sem]
    refine thenN_call ⟨_, _, left_call U R1 (by omega), ?_⟩
    simp -implicitDefEqProofs (disch := omega) only [go_sem]
    obtain ⟨I, hI⟩ : ∃ I : Nat → FN → HN → Prop, ∀ m φ ζ, I m φ ζ ↔ ∃ i x, m = n - i ∧ i ≤ n ∧ φ 1 = .func 28 [] [.ptr dp 0] ∧ φ 6 = x ∧ φ 18 = .int .u64 n ∧ φ 19 = .int .u64 i ∧ OwnA 4 η.nx ζ x i (rowsC (rdC i l1 bad1).1) ∧ RdrAt ζ rp (rdC i l1 bad1).2.1 (rdC i l1 bad1).2.2 ∧ KpR rp η ζ := ⟨_, fun _ _ _ => Iff.rfl⟩
    refine wpN_loop I n ((hI _ _ _).2 ⟨0, .nilslice, rfl, Nat.zero_le _, rfl, rfl, by rw [hn1]; rfl, rfl, OwnA.nil, R1, K1⟩) ?_
    intro m φ ζ hi
    obtain ⟨i, x, hm, hi, p1, p6, p18, p19, o, R, K⟩ := (hI _ _ _).1 hi
    have nK := K.1
    by_cases hlt : i < n
    · have hr := rdC_rest i l1 bad1
      simp -implicitDefEqProofs (disch := omega) only [go_sem, p1, p6, p18, p19]
      refine thenN_call (clos28_then U R ((K.2 dp hdn hdr).trans hd) ((K.2 cp hcn hcr).trans hc) hdr hcr (by have := K.1; omega) (by have := K.1; omega) (fun x h => hx1 x (hr.1 x h)) (by omega) fun a b c d ζ2 e2 R2 K2 => ?_)
      have hs : rdC (i + 1) l1 bad1 = ((rdC i l1 bad1).1 ++ [⟨a, b, c, d⟩], (rdC 1 (rdC i l1 bad1).2.1 (rdC i l1 bad1).2.2).2) := by
        have s1 := rdC_s i l1 bad1
        have s2 := rdC_s 0 (rdC i l1 bad1).2.1 (rdC i l1 bad1).2.2
        have z0 : rdC 0 (rdC i l1 bad1).2.1 (rdC i l1 bad1).2.2 = ([], (rdC i l1 bad1).2.1, (rdC i l1 bad1).2.2) := rfl
        rw [z0] at s2
        dsimp only at s1 s2
        rw [s2] at e2
        rw [s2, s1]
        have e3 := (Prod.mk.inj e2).1
        rw [List.nil_append] at e3
        rw [e3]
      have nK2 := K2.1
      simp -implicitDefEqProofs (disch := omega) only [go_sem, p1, p6, p18, p19]
      refine thenN_app (w := 32) (base := η.nx) (by decide) ((OwnA.keepR o K2 hrp).ext (.new (Nat.le_refl _))) (RdA.lit14 (cp := .kn 1)) (by omega) (by show η.nx ≤ ζ2.nx + 1; omega) fun x3 ζ3 o3 E3 => ?_
      have n3 : ζ2.nx + 1 ≤ ζ3.nx := E3.1
      have g3 : ∀ b, b < η.nx → ζ3.f b = ζ2.f b := fun b hb => (E3.2 b hb).trans (by show (if b = ζ2.nx then _ else _) = _; rw [if_neg (by omega)])
      simp -implicitDefEqProofs (disch := omega) only [go_sem, p1, p6, p18, p19]
      refine ⟨n - (i + 1), by omega, (hI _ _ _).2 ⟨i + 1, x3, rfl, by omega, p1, rfl, p18, rfl, ?_, ?_, ⟨by omega, fun b hb hr => (g3 b hb).trans ((K2.2 b (by omega) hr).trans (K.2 b hb hr))⟩⟩⟩
      · rw [hs]
        dsimp only
        rw [rowsC_app]
        exact o3
      · rw [hs]
        exact R2.keepB (by omega) fun b hb => g3 b (by omega)
    · obtain rfl : i = n := by omega
      simp -implicitDefEqProofs (disch := omega) only [go_sem, p1, p6, p18, p19]
      refine h _ _ ?_ R K
      rw [Go.Plain.rdC_len]
      exact o
  · have hn1 : n = n0 := by rw [hn]; exact if_neg hc0
    simp -implicitDefEqProofs (disch := omega) only [go_sem]
    obtain ⟨I, hI⟩ : ∃ I : Nat → FN → HN → Prop, ∀ m φ ζ, I m φ ζ ↔ ∃ i x, m = n - i ∧ i ≤ n ∧ φ 1 = .func 28 [] [.ptr dp 0] ∧ φ 6 = x ∧ φ 18 = .int .u64 n ∧ φ 19 = .int .u64 i ∧ OwnA 4 η.nx ζ x i (rowsC (rdC i l1 bad1).1) ∧ RdrAt ζ rp (rdC i l1 bad1).2.1 (rdC i l1 bad1).2.2 ∧ KpR rp η ζ := ⟨_, fun _ _ _ => Iff.rfl⟩
    refine wpN_loop I n ((hI _ _ _).2 ⟨0, .nilslice, rfl, Nat.zero_le _, rfl, rfl, by rw [hn1]; rfl, rfl, OwnA.nil, R1, K1⟩) ?_
    intro m φ ζ hi
    obtain ⟨i, x, hm, hi, p1, p6, p18, p19, o, R, K⟩ := (hI _ _ _).1 hi
    have nK := K.1
    by_cases hlt : i < n
    · have hr := rdC_rest i l1 bad1
      simp -implicitDefEqProofs (disch := omega) only [go_sem, p1, p6, p18, p19]
      refine thenN_call (clos28_then U R ((K.2 dp hdn hdr).trans hd) ((K.2 cp hcn hcr).trans hc) hdr hcr (by have := K.1; omega) (by have := K.1; omega) (fun x h => hx1 x (hr.1 x h)) (by omega) fun a b c d ζ2 e2 R2 K2 => ?_)
      have hs : rdC (i + 1) l1 bad1 = ((rdC i l1 bad1).1 ++ [⟨a, b, c, d⟩], (rdC 1 (rdC i l1 bad1).2.1 (rdC i l1 bad1).2.2).2) := by
        have s1 := rdC_s i l1 bad1
        have s2 := rdC_s 0 (rdC i l1 bad1).2.1 (rdC i l1 bad1).2.2
        have z0 : rdC 0 (rdC i l1 bad1).2.1 (rdC i l1 bad1).2.2 = ([], (rdC i l1 bad1).2.1, (rdC i l1 bad1).2.2) := rfl
        rw [z0] at s2
        dsimp only at s1 s2
        rw [s2] at e2
        rw [s2, s1]
        have e3 := (Prod.mk.inj e2).1
        rw [List.nil_append] at e3
        rw [e3]
      have nK2 := K2.1
      simp -implicitDefEqProofs (disch := omega) only [go_sem, p1, p6, p18, p19]
      refine thenN_app (w := 32) (base := η.nx) (by decide) ((OwnA.keepR o K2 hrp).ext (.new (Nat.le_refl _))) (RdA.lit14 (cp := .kn 1)) (by omega) (by show η.nx ≤ ζ2.nx + 1; omega) fun x3 ζ3 o3 E3 => ?_
      have n3 : ζ2.nx + 1 ≤ ζ3.nx := E3.1
      have g3 : ∀ b, b < η.nx → ζ3.f b = ζ2.f b := fun b hb => (E3.2 b hb).trans (by show (if b = ζ2.nx then _ else _) = _; rw [if_neg (by omega)])
      simp -implicitDefEqProofs (disch := omega) only [go_sem, p1, p6, p18, p19]
      refine ⟨n - (i + 1), by omega, (hI _ _ _).2 ⟨i + 1, x3, rfl, by omega, p1, rfl, p18, rfl, ?_, ?_, ⟨by omega, fun b hb hr => (g3 b hb).trans ((K2.2 b (by omega) hr).trans (K.2 b hb hr))⟩⟩⟩
      · rw [hs]
        dsimp only
        rw [rowsC_app]
        exact o3
      · rw [hs]
        exact R2.keepB (by omega) fun b hb => g3 b (by omega)
    · obtain rfl : i = n := by omega
      simp -implicitDefEqProofs (disch := omega) only [go_sem, p1, p6, p18, p19]
      refine h _ _ ?_ R K
      rw [Go.Plain.rdC_len]
      exact o
end Go.Proofs.YtjljolnhmmbkoaaDoor
