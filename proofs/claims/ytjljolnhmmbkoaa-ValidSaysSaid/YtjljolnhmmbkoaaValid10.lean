/- What is proved: whether an instruction's kinds fit. Conditions: none. -/
import Derived.Test.YtjljolnhmmbkoaaValid9
set_option linter.unusedVariables false
set_option linter.unusedSimpArgs false
set_option linter.unusedSectionVars false
namespace Go.Proofs.Ytjljolnhmmbkoaa
open Go.Eng Go.Plain
set_option autoImplicit false
set_option maxRecDepth 100000
variable {nat : ∀ [Deep], Nats}
theorem flat1 {k : IntKind} : ∀ l : List Nat, l.map (AV.int k) = (l.map fun n => [AV.int k n]).flatten
  | [] => rfl
  | x :: l => by rw [List.map_cons, List.map_cons, List.flatten_cons, ← flat1 l]; rfl
theorem rdI_blk {k : IntKind} {η : HN} {b : Nat} {cap : Cp} {ro : Bool} (l : List Nat) (hb : η.f b = .live ro (l.map (.int k))) (hn : b < η.nx) : RdI k η (.slice b 0 l.length cap) l := by
  refine .inr ⟨b, 0, cap, ro, _, by rw [List.length_map], hb, hn, by simp, by simp, ?_⟩
  rw [List.drop_zero, List.take_of_length_le (by simp)]
  exact flat1 l
theorem all1 (q : Nat → Bool) (x : Nat) : [x].all q = q x := by simp
theorem all2 (q : Nat → Bool) (x y : Nat) : [x, y].all q = (q x && q y) := by simp
theorem all3 (q : Nat → Bool) (x y z : Nat) : [x, y, z].all q = (q x && (q y && q z)) := by simp
theorem has_lt {l : List Nat} {n : Nat} (h : has l n = true) : n < l.length := of_decide_eq_true h
theorem and_lt {a b : Bool} (h : (a && b) = true) : a = true ∧ b = true := Bool.and_eq_true_iff.1 h
set_option maxHeartbeats 2000000 in
theorem kinds_spec (U : Usual nat) (η : HN) (c : Nat) (ro : Bool) (z : PV) (p : PD) (pc : Nat) (i : Ins) (hc : η.f c = .live ro z.cells) (hcn : c < η.nx) (hp : IsP η z p) (hf : Fine p)
    (hi : i.op < 18446744073709551616 ∧ i.a < 18446744073709551616 ∧ i.b < 18446744073709551616 ∧ i.c < 18446744073709551616) (ht : thereF p pc i = true) :
    ∃ v η', CallN Try.prog nat 43 [.ptr c 0, .agg i.cells] η v η' ∧ v = .bool (kindsF p i) ∧ ExtB η.nx η η' := by
  refine call_of (PT := pl43) Try.func43 rfl (U 43 (by decide)) ok43 rfl ?_
  have h1 := hf.ins.1
  have h2 := hf.outs.1
  have h3 := hf.slots.1
  have h4 := hf.mems.1
  have h5 := hf.consts.1
  obtain ⟨op, a, b, c3⟩ := i
  obtain ⟨i0, i1, i2, i3⟩ := hi
  have hic : Ins.cells ⟨op, a, b, c3⟩ = [.int .i64 op, .int .i64 a, .int .i64 b, .int .i64 c3] := rfl
  have E : ExtB η.nx η (((η.new (.live false [.int .i64 op, .int .i64 a, .int .i64 b, .int .i64 c3])).new (.live false [.nilslice, .nilslice, .nilslice, .nilslice, .nilslice, .nilslice])).put (η.nx + 1) (.live false z.cells)) := extP (extN (extN (.refl _ _)))
  have hb : (((η.new (.live false [.int .i64 op, .int .i64 a, .int .i64 b, .int .i64 c3])).new (.live false [.nilslice, .nilslice, .nilslice, .nilslice, .nilslice, .nilslice])).put (η.nx + 1) (.live false z.cells)).f (η.nx + 1) = .live false z.cells := by show (if η.nx + 1 = η.nx + 1 then _ else _) = _; rw [if_pos rfl]
  have hb2 : (((η.new (.live false [.int .i64 op, .int .i64 a, .int .i64 b, .int .i64 c3])).new (.live false [.nilslice, .nilslice, .nilslice, .nilslice, .nilslice, .nilslice])).put (η.nx + 1) (.live false z.cells)).f η.nx = .live false [.int .i64 op, .int .i64 a, .int .i64 b, .int .i64 c3] := by
    show (if η.nx = η.nx + 1 then _ else if η.nx = η.nx + 1 then _ else if η.nx = η.nx then _ else _) = _; rw [if_neg (by omega), if_neg (by omega), if_pos rfl]
  have hnx : (((η.new (.live false [.int .i64 op, .int .i64 a, .int .i64 b, .int .i64 c3])).new (.live false [.nilslice, .nilslice, .nilslice, .nilslice, .nilslice, .nilslice])).put (η.nx + 1) (.live false z.cells)).nx = η.nx + 2 := rfl
  have hq := hp.ext E
  simp -implicitDefEqProofs (disch := omega) only [go_sem, hc, hic]
  generalize ((η.new (.live false [.int .i64 op, .int .i64 a, .int .i64 b, .int .i64 c3])).new (.live false [.nilslice, .nilslice, .nilslice, .nilslice, .nilslice, .nilslice])).put (η.nx + 1) (.live false z.cells) = η1 at *
  have hbn : η.nx + 1 < η1.nx := by omega
  unfold kindsF
  unfold thereF at ht
  dsimp only at ht ⊢
  by_cases q1 : op = 1
  · subst q1
    have d0 : decide (1 = 0) = false := rfl
    rw [if_neg (by decide), if_pos (by decide)] at ht
    obtain ⟨t1, t2⟩ := and_lt ht
    have u1 := has_lt t1
    have u2 := has_lt t2
    obtain ⟨b1, off1, cap1, ro1, row1, z1, hb1, hn1, hr1⟩ := hq.slots.at (has_lt t1)
    obtain ⟨b2, off2, cap2, ro2, row2, z2, hb2', hn2, hr2⟩ := hq.slots.at (has_lt t2)
    rw [z1] at z2
    cases z2
    rw [hb1] at hb2'
    cases hb2'
    rw [getD_get _ _ (has_lt t1), getD_get _ _ (has_lt t2)]
    simp -implicitDefEqProofs (disch := omega) only [d0, go_sem, hb, hb2, z1, hb1, hr1, hr2, decide_true, decide_false, or_false, or_true, false_or, true_or, false_and, true_and, and_true, and_false, reduceCtorEq]
    first | exact E | exact ⟨rfl, E⟩
  by_cases q2 : op = 2
  · subst q2
    have d0 : decide (2 = 0) = false := rfl
    rw [if_neg (by decide), if_neg (by decide), if_pos (by decide)] at ht
    obtain ⟨t1, t2⟩ := and_lt ht
    have u1 := has_lt t1
    have u2 := has_lt t2
    obtain ⟨b1, off1, cap1, ro1, row1, z1, hb1, hn1, hr1⟩ := hq.slots.at (has_lt t1)
    obtain ⟨b2, off2, cap2, ro2, row2, z2, hb2', hn2, hr2⟩ := hq.mems.at (has_lt t2)
    rw [getD_get _ _ (has_lt t1), getD_get _ _ (has_lt t2)]
    simp -implicitDefEqProofs (disch := omega) only [d0, go_sem, hb, hb2, z1, z2, hb1, hb2', hr1, hr2, decide_true, decide_false, or_false, or_true, false_or, true_or, false_and, true_and, and_true, and_false, reduceCtorEq]
    first | exact E | exact ⟨rfl, E⟩
  by_cases q3 : op = 3
  · subst q3
    have d0 : decide (3 = 0) = false := rfl
    rw [if_neg (by decide), if_neg (by decide), if_neg (by decide), if_pos (by decide)] at ht
    obtain ⟨t1, t2⟩ := and_lt ht
    have u1 := has_lt t1
    have u2 := has_lt t2
    obtain ⟨b1, off1, cap1, ro1, row1, z1, hb1, hn1, hr1⟩ := hq.mems.at (has_lt t1)
    obtain ⟨b2, off2, cap2, ro2, row2, z2, hb2', hn2, hr2⟩ := hq.slots.at (has_lt t2)
    rw [getD_get _ _ (has_lt t1), getD_get _ _ (has_lt t2)]
    simp -implicitDefEqProofs (disch := omega) only [d0, go_sem, hb, hb2, z1, z2, hb1, hb2', hr1, hr2, decide_true, decide_false, or_false, or_true, false_or, true_or, false_and, true_and, and_true, and_false, reduceCtorEq]
    first | exact E | exact ⟨rfl, E⟩
  by_cases q4 : op = 4
  · subst q4
    have d0 : decide (4 = 0) = false := rfl
    rw [if_neg (by decide), if_neg (by decide), if_neg (by decide), if_neg (by decide), if_pos (by decide)] at ht
    obtain ⟨t1, t2⟩ := and_lt ht
    have u1 := has_lt t1
    have u2 := has_lt t2
    obtain ⟨b1, off1, cap1, ro1, row1, z1, hb1, hn1, hr1⟩ := hq.slots.at (has_lt t1)
    obtain ⟨b2, off2, cap2, ro2, row2, z2, hb2', hn2, hr2⟩ := hq.ins.at (has_lt t2)
    rw [getD_get _ _ (has_lt t1), getD_get _ _ (has_lt t2)]
    simp -implicitDefEqProofs (disch := omega) only [d0, go_sem, hb, hb2, z1, z2, hb1, hb2', hr1, hr2, decide_true, decide_false, or_false, or_true, false_or, true_or, false_and, true_and, and_true, and_false, reduceCtorEq]
    first | exact E | exact ⟨rfl, E⟩
  by_cases q5 : op = 5
  · subst q5
    have d0 : decide (5 = 0) = false := rfl
    rw [if_neg (by decide), if_neg (by decide), if_neg (by decide), if_neg (by decide), if_neg (by decide), if_pos (by decide)] at ht
    obtain ⟨t1, t2⟩ := and_lt ht
    have u1 := has_lt t1
    have u2 := has_lt t2
    obtain ⟨b1, off1, cap1, ro1, row1, z1, hb1, hn1, hr1⟩ := hq.outs.at (has_lt t1)
    obtain ⟨b2, off2, cap2, ro2, row2, z2, hb2', hn2, hr2⟩ := hq.slots.at (has_lt t2)
    rw [getD_get _ _ (has_lt t1), getD_get _ _ (has_lt t2)]
    simp -implicitDefEqProofs (disch := omega) only [d0, go_sem, hb, hb2, z1, z2, hb1, hb2', hr1, hr2, decide_true, decide_false, or_false, or_true, false_or, true_or, false_and, true_and, and_true, and_false, reduceCtorEq]
    first | exact E | exact ⟨rfl, E⟩
  by_cases q6 : op = 6
  · subst q6
    have d0 : decide (6 = 0) = false := rfl
    rw [if_neg (by decide), if_pos (by decide)] at ht
    obtain ⟨t1, t2⟩ := and_lt ht
    simp -implicitDefEqProofs (disch := omega) only [d0, go_sem, hb, hb2, decide_true, decide_false, or_false, or_true, false_or, true_or, false_and, true_and, and_true, and_false, reduceCtorEq]
    have E2 : ExtB η1.nx η1 (η1.new (.live false [.int .i64 a, .int .i64 b])) := extN (.refl _ _)
    refine thenN_call (is_then U (p := p) (l := [a, b]) ((E2.2 _ hbn).trans hb) (by show _ < η1.nx + 1; omega) (rdI_blk [a, b] (by show (if η1.nx = η1.nx then _ else _) = _; rw [if_pos rfl]; rfl) (Nat.lt_succ_self _)) (by simp) (by simp only [List.mem_cons, List.not_mem_nil, or_false]; rintro n (rfl | rfl) <;> (apply has_lt; assumption)) (rdI_ext hq.slots E2) h3 fun η3 E3 => ?_)
    rw [all2]
    have E' := extT E (extT E2 E3)
    simp -implicitDefEqProofs (disch := omega) only [d0, go_sem, hb, hb2, decide_true, decide_false, or_false, or_true, false_or, true_or, false_and, true_and, and_true, and_false, reduceCtorEq]
    first | exact E' | exact ⟨rfl, E'⟩
  by_cases q7 : op = 7
  · subst q7
    have d0 : decide (7 = 0) = false := rfl
    rw [if_neg (by decide), if_pos (by decide)] at ht
    obtain ⟨t1, t2⟩ := and_lt ht
    simp -implicitDefEqProofs (disch := omega) only [d0, go_sem, hb, hb2, decide_true, decide_false, or_false, or_true, false_or, true_or, false_and, true_and, and_true, and_false, reduceCtorEq]
    have E2 : ExtB η1.nx η1 (η1.new (.live false [.int .i64 a, .int .i64 b])) := extN (.refl _ _)
    refine thenN_call (is_then U (p := p) (l := [a, b]) ((E2.2 _ hbn).trans hb) (by show _ < η1.nx + 1; omega) (rdI_blk [a, b] (by show (if η1.nx = η1.nx then _ else _) = _; rw [if_pos rfl]; rfl) (Nat.lt_succ_self _)) (by simp) (by simp only [List.mem_cons, List.not_mem_nil, or_false]; rintro n (rfl | rfl) <;> (apply has_lt; assumption)) (rdI_ext hq.slots E2) h3 fun η3 E3 => ?_)
    rw [all2]
    have E' := extT E (extT E2 E3)
    simp -implicitDefEqProofs (disch := omega) only [d0, go_sem, hb, hb2, decide_true, decide_false, or_false, or_true, false_or, true_or, false_and, true_and, and_true, and_false, reduceCtorEq]
    first | exact E' | exact ⟨rfl, E'⟩
  by_cases q19 : op = 19
  · subst q19
    have d0 : decide (19 = 0) = false := rfl
    rw [if_neg (by decide), if_neg (by decide), if_neg (by decide), if_neg (by decide), if_neg (by decide), if_neg (by decide), if_pos (by decide)] at ht
    have t1 := (and_lt ht).2
    simp -implicitDefEqProofs (disch := omega) only [d0, go_sem, hb, hb2, decide_true, decide_false, or_false, or_true, false_or, true_or, false_and, true_and, and_true, and_false, reduceCtorEq]
    have E2 : ExtB η1.nx η1 (η1.new (.live false [.int .i64 b])) := extN (.refl _ _)
    refine thenN_call (is_then U (p := p) (l := [b]) ((E2.2 _ hbn).trans hb) (by show _ < η1.nx + 1; omega) (rdI_blk [b] (by show (if η1.nx = η1.nx then _ else _) = _; rw [if_pos rfl]; rfl) (Nat.lt_succ_self _)) (by simp) (by simp only [List.mem_cons, List.not_mem_nil, or_false]; rintro n (rfl) <;> (apply has_lt; assumption)) (rdI_ext hq.slots E2) h3 fun η3 E3 => ?_)
    rw [all1]
    have E' := extT E (extT E2 E3)
    simp -implicitDefEqProofs (disch := omega) only [d0, go_sem, hb, hb2, decide_true, decide_false, or_false, or_true, false_or, true_or, false_and, true_and, and_true, and_false, reduceCtorEq]
    first | exact E' | exact ⟨rfl, E'⟩
  by_cases q0 : op = 0
  · subst q0
    have d0 : decide (0 = 0) = true := rfl
    rw [if_pos (by decide)] at ht
    obtain ⟨t1, t2⟩ := and_lt ht
    simp -implicitDefEqProofs (disch := omega) only [d0, go_sem, hb, hb2, decide_true, decide_false, or_false, or_true, false_or, true_or, false_and, true_and, and_true, and_false, reduceCtorEq]
    have E2 : ExtB η1.nx η1 (η1.new (.live false [.int .i64 a])) := extN (.refl _ _)
    refine thenN_call (is_then U (p := p) (l := [a]) ((E2.2 _ hbn).trans hb) (by show _ < η1.nx + 1; omega) (rdI_blk [a] (by show (if η1.nx = η1.nx then _ else _) = _; rw [if_pos rfl]; rfl) (Nat.lt_succ_self _)) (by simp) (by simp only [List.mem_cons, List.not_mem_nil, or_false]; rintro n (rfl) <;> (apply has_lt; assumption)) (rdI_ext hq.slots E2) h3 fun η3 E3 => ?_)
    rw [all1]
    have E' := extT E (extT E2 E3)
    have q3 := hq.ext (extT E2 E3)
    have u2 := has_lt t2
    obtain ⟨b2, off2, cap2, ro2, row2, z2, hb2', hn2, hr2⟩ := q3.consts.at (has_lt t2)
    rw [getD_get _ _ (has_lt t2)]
    have hb3 : η3.f (η.nx + 1) = .live false z.cells := ((extT E2 E3).2 _ hbn).trans hb
    have hb4 : η3.f η.nx = .live false [.int .i64 0, .int .i64 a, .int .i64 b, .int .i64 c3] := ((extT E2 E3).2 _ (by omega)).trans hb2
    cases hx : isF p 2 a with
    | true =>
      simp -implicitDefEqProofs (disch := omega) only [go_sem, hb3, hb4, z2, hb2', hr2, Bool.false_or, Bool.true_or, if_true]
      first | exact E' | exact ⟨rfl, E'⟩
    | false =>
    by_cases y0 : p.consts[b] = 0
    · simp -implicitDefEqProofs (disch := omega) only [go_sem, hb3, hb4, z2, hb2', hr2, Bool.false_or, Bool.true_or, if_true]
      first | exact E' | exact ⟨rfl, E'⟩
    by_cases y1 : p.consts[b] = 1
    · simp -implicitDefEqProofs (disch := omega) only [go_sem, hb3, hb4, z2, hb2', hr2, Bool.false_or, Bool.true_or, if_true]
      first | exact E' | exact ⟨rfl, E'⟩
    simp -implicitDefEqProofs (disch := omega) only [go_sem, hb3, hb4, z2, hb2', hr2, Bool.false_or, Bool.true_or, if_true]
    first | exact E' | exact ⟨rfl, E'⟩
  by_cases q20 : op = 20
  · subst q20
    have d0 : decide (20 = 0) = false := rfl
    simp -implicitDefEqProofs (disch := omega) only [d0, go_sem, hb, hb2, decide_true, decide_false, or_false, or_true, false_or, true_or, false_and, true_and, and_true, and_false, reduceCtorEq]
    first | exact E | exact ⟨rfl, E⟩
  rw [if_neg q0, if_neg (by omega), if_neg q2, if_neg q3, if_neg q4, if_neg q5, if_neg q19, if_neg q20] at ht
  obtain ⟨t0, ht⟩ := and_lt ht
  obtain ⟨t1, ht⟩ := and_lt ht
  obtain ⟨t2, t3⟩ := and_lt ht
  have t0 := of_decide_eq_true t0
  rw [if_neg q0, if_neg q1, if_neg q2, if_neg q3, if_neg q4, if_neg q5, if_neg q6, if_neg q7]
  by_cases q8 : op = 8
  · subst q8
    have d0 : decide (8 = 0) = false := rfl
    simp -implicitDefEqProofs (disch := omega) only [d0, go_sem, hb, hb2, decide_true, decide_false, or_false, or_true, false_or, true_or, false_and, true_and, and_true, and_false, reduceCtorEq]
    have E2 : ExtB η1.nx η1 (η1.new (.live false [.int .i64 a, .int .i64 b, .int .i64 c3])) := extN (.refl _ _)
    refine thenN_call (is_then U (p := p) (l := [a, b, c3]) ((E2.2 _ hbn).trans hb) (by show _ < η1.nx + 1; omega) (rdI_blk [a, b, c3] (by show (if η1.nx = η1.nx then _ else _) = _; rw [if_pos rfl]; rfl) (Nat.lt_succ_self _)) (by simp) (by simp only [List.mem_cons, List.not_mem_nil, or_false]; rintro n (rfl | rfl | rfl) <;> (apply has_lt; assumption)) (rdI_ext hq.slots E2) h3 fun η3 E3 => ?_)
    rw [all3]
    have E' := extT E (extT E2 E3)
    simp -implicitDefEqProofs (disch := omega) only [d0, go_sem, hb, hb2, decide_true, decide_false, or_false, or_true, false_or, true_or, false_and, true_and, and_true, and_false, reduceCtorEq]
    first | exact E' | exact ⟨rfl, E'⟩
  by_cases q9 : op = 9
  · subst q9
    have d0 : decide (9 = 0) = false := rfl
    simp -implicitDefEqProofs (disch := omega) only [d0, go_sem, hb, hb2, decide_true, decide_false, or_false, or_true, false_or, true_or, false_and, true_and, and_true, and_false, reduceCtorEq]
    have E2 : ExtB η1.nx η1 (η1.new (.live false [.int .i64 a, .int .i64 b, .int .i64 c3])) := extN (.refl _ _)
    refine thenN_call (is_then U (p := p) (l := [a, b, c3]) ((E2.2 _ hbn).trans hb) (by show _ < η1.nx + 1; omega) (rdI_blk [a, b, c3] (by show (if η1.nx = η1.nx then _ else _) = _; rw [if_pos rfl]; rfl) (Nat.lt_succ_self _)) (by simp) (by simp only [List.mem_cons, List.not_mem_nil, or_false]; rintro n (rfl | rfl | rfl) <;> (apply has_lt; assumption)) (rdI_ext hq.slots E2) h3 fun η3 E3 => ?_)
    rw [all3]
    have E' := extT E (extT E2 E3)
    simp -implicitDefEqProofs (disch := omega) only [d0, go_sem, hb, hb2, decide_true, decide_false, or_false, or_true, false_or, true_or, false_and, true_and, and_true, and_false, reduceCtorEq]
    first | exact E' | exact ⟨rfl, E'⟩
  by_cases q10 : op = 10
  · subst q10
    have d0 : decide (10 = 0) = false := rfl
    simp -implicitDefEqProofs (disch := omega) only [d0, go_sem, hb, hb2, decide_true, decide_false, or_false, or_true, false_or, true_or, false_and, true_and, and_true, and_false, reduceCtorEq]
    have E2 : ExtB η1.nx η1 (η1.new (.live false [.int .i64 a, .int .i64 b, .int .i64 c3])) := extN (.refl _ _)
    refine thenN_call (is_then U (p := p) (l := [a, b, c3]) ((E2.2 _ hbn).trans hb) (by show _ < η1.nx + 1; omega) (rdI_blk [a, b, c3] (by show (if η1.nx = η1.nx then _ else _) = _; rw [if_pos rfl]; rfl) (Nat.lt_succ_self _)) (by simp) (by simp only [List.mem_cons, List.not_mem_nil, or_false]; rintro n (rfl | rfl | rfl) <;> (apply has_lt; assumption)) (rdI_ext hq.slots E2) h3 fun η3 E3 => ?_)
    rw [all3]
    have E' := extT E (extT E2 E3)
    simp -implicitDefEqProofs (disch := omega) only [d0, go_sem, hb, hb2, decide_true, decide_false, or_false, or_true, false_or, true_or, false_and, true_and, and_true, and_false, reduceCtorEq]
    first | exact E' | exact ⟨rfl, E'⟩
  by_cases q11 : op = 11
  · subst q11
    have d0 : decide (11 = 0) = false := rfl
    simp -implicitDefEqProofs (disch := omega) only [d0, go_sem, hb, hb2, decide_true, decide_false, or_false, or_true, false_or, true_or, false_and, true_and, and_true, and_false, reduceCtorEq]
    have E2 : ExtB η1.nx η1 (η1.new (.live false [.int .i64 a, .int .i64 b, .int .i64 c3])) := extN (.refl _ _)
    refine thenN_call (is_then U (p := p) (l := [a, b, c3]) ((E2.2 _ hbn).trans hb) (by show _ < η1.nx + 1; omega) (rdI_blk [a, b, c3] (by show (if η1.nx = η1.nx then _ else _) = _; rw [if_pos rfl]; rfl) (Nat.lt_succ_self _)) (by simp) (by simp only [List.mem_cons, List.not_mem_nil, or_false]; rintro n (rfl | rfl | rfl) <;> (apply has_lt; assumption)) (rdI_ext hq.slots E2) h3 fun η3 E3 => ?_)
    rw [all3]
    have E' := extT E (extT E2 E3)
    simp -implicitDefEqProofs (disch := omega) only [d0, go_sem, hb, hb2, decide_true, decide_false, or_false, or_true, false_or, true_or, false_and, true_and, and_true, and_false, reduceCtorEq]
    first | exact E' | exact ⟨rfl, E'⟩
  by_cases q12 : op = 12
  · subst q12
    have d0 : decide (12 = 0) = false := rfl
    simp -implicitDefEqProofs (disch := omega) only [d0, go_sem, hb, hb2, decide_true, decide_false, or_false, or_true, false_or, true_or, false_and, true_and, and_true, and_false, reduceCtorEq]
    have E2 : ExtB η1.nx η1 (η1.new (.live false [.int .i64 a, .int .i64 b, .int .i64 c3])) := extN (.refl _ _)
    refine thenN_call (is_then U (p := p) (l := [a, b, c3]) ((E2.2 _ hbn).trans hb) (by show _ < η1.nx + 1; omega) (rdI_blk [a, b, c3] (by show (if η1.nx = η1.nx then _ else _) = _; rw [if_pos rfl]; rfl) (Nat.lt_succ_self _)) (by simp) (by simp only [List.mem_cons, List.not_mem_nil, or_false]; rintro n (rfl | rfl | rfl) <;> (apply has_lt; assumption)) (rdI_ext hq.slots E2) h3 fun η3 E3 => ?_)
    rw [all3]
    have E' := extT E (extT E2 E3)
    simp -implicitDefEqProofs (disch := omega) only [d0, go_sem, hb, hb2, decide_true, decide_false, or_false, or_true, false_or, true_or, false_and, true_and, and_true, and_false, reduceCtorEq]
    first | exact E' | exact ⟨rfl, E'⟩
  rw [if_neg (by omega)]
  by_cases q16 : op = 16
  · subst q16
    have d0 : decide (16 = 0) = false := rfl
    simp -implicitDefEqProofs (disch := omega) only [d0, go_sem, hb, hb2, decide_true, decide_false, or_false, or_true, false_or, true_or, false_and, true_and, and_true, and_false, reduceCtorEq]
    have E2 : ExtB η1.nx η1 (η1.new (.live false [.int .i64 a, .int .i64 b, .int .i64 c3])) := extN (.refl _ _)
    refine thenN_call (is_then U (p := p) (l := [a, b, c3]) ((E2.2 _ hbn).trans hb) (by show _ < η1.nx + 1; omega) (rdI_blk [a, b, c3] (by show (if η1.nx = η1.nx then _ else _) = _; rw [if_pos rfl]; rfl) (Nat.lt_succ_self _)) (by simp) (by simp only [List.mem_cons, List.not_mem_nil, or_false]; rintro n (rfl | rfl | rfl) <;> (apply has_lt; assumption)) (rdI_ext hq.slots E2) h3 fun η3 E3 => ?_)
    rw [all3]
    have E' := extT E (extT E2 E3)
    simp -implicitDefEqProofs (disch := omega) only [d0, go_sem, hb, hb2, decide_true, decide_false, or_false, or_true, false_or, true_or, false_and, true_and, and_true, and_false, reduceCtorEq]
    first | exact E' | exact ⟨rfl, E'⟩
  by_cases q17 : op = 17
  · subst q17
    have d0 : decide (17 = 0) = false := rfl
    simp -implicitDefEqProofs (disch := omega) only [d0, go_sem, hb, hb2, decide_true, decide_false, or_false, or_true, false_or, true_or, false_and, true_and, and_true, and_false, reduceCtorEq]
    have E2 : ExtB η1.nx η1 (η1.new (.live false [.int .i64 a, .int .i64 b, .int .i64 c3])) := extN (.refl _ _)
    refine thenN_call (is_then U (p := p) (l := [a, b, c3]) ((E2.2 _ hbn).trans hb) (by show _ < η1.nx + 1; omega) (rdI_blk [a, b, c3] (by show (if η1.nx = η1.nx then _ else _) = _; rw [if_pos rfl]; rfl) (Nat.lt_succ_self _)) (by simp) (by simp only [List.mem_cons, List.not_mem_nil, or_false]; rintro n (rfl | rfl | rfl) <;> (apply has_lt; assumption)) (rdI_ext hq.slots E2) h3 fun η3 E3 => ?_)
    rw [all3]
    have E' := extT E (extT E2 E3)
    simp -implicitDefEqProofs (disch := omega) only [d0, go_sem, hb, hb2, decide_true, decide_false, or_false, or_true, false_or, true_or, false_and, true_and, and_true, and_false, reduceCtorEq]
    first | exact E' | exact ⟨rfl, E'⟩
  by_cases q18 : op = 18
  · subst q18
    have d0 : decide (18 = 0) = false := rfl
    simp -implicitDefEqProofs (disch := omega) only [d0, go_sem, hb, hb2, decide_true, decide_false, or_false, or_true, false_or, true_or, false_and, true_and, and_true, and_false, reduceCtorEq]
    have E2 : ExtB η1.nx η1 (η1.new (.live false [.int .i64 a, .int .i64 b, .int .i64 c3])) := extN (.refl _ _)
    refine thenN_call (is_then U (p := p) (l := [a, b, c3]) ((E2.2 _ hbn).trans hb) (by show _ < η1.nx + 1; omega) (rdI_blk [a, b, c3] (by show (if η1.nx = η1.nx then _ else _) = _; rw [if_pos rfl]; rfl) (Nat.lt_succ_self _)) (by simp) (by simp only [List.mem_cons, List.not_mem_nil, or_false]; rintro n (rfl | rfl | rfl) <;> (apply has_lt; assumption)) (rdI_ext hq.slots E2) h3 fun η3 E3 => ?_)
    rw [all3]
    have E' := extT E (extT E2 E3)
    simp -implicitDefEqProofs (disch := omega) only [d0, go_sem, hb, hb2, decide_true, decide_false, or_false, or_true, false_or, true_or, false_and, true_and, and_true, and_false, reduceCtorEq]
    first | exact E' | exact ⟨rfl, E'⟩
  by_cases q14 : op = 14
  · subst q14
    have d0 : decide (14 = 0) = false := rfl
    simp -implicitDefEqProofs (disch := omega) only [d0, go_sem, hb, hb2, decide_true, decide_false, or_false, or_true, false_or, true_or, false_and, true_and, and_true, and_false, reduceCtorEq]
    have E2 : ExtB η1.nx η1 (η1.new (.live false [.int .i64 a])) := extN (.refl _ _)
    refine thenN_call (is_then U (p := p) (l := [a]) ((E2.2 _ hbn).trans hb) (by show _ < η1.nx + 1; omega) (rdI_blk [a] (by show (if η1.nx = η1.nx then _ else _) = _; rw [if_pos rfl]; rfl) (Nat.lt_succ_self _)) (by simp) (by simp only [List.mem_cons, List.not_mem_nil, or_false]; rintro n (rfl) <;> (apply has_lt; assumption)) (rdI_ext hq.slots E2) h3 fun η3 E3 => ?_)
    rw [all1]
    have E' := extT E (extT E2 E3)
    have hb3 : η3.f (η.nx + 1) = .live false z.cells := ((extT E2 E3).2 _ hbn).trans hb
    have hb4 : η3.f η.nx = .live false [.int .i64 14, .int .i64 a, .int .i64 b, .int .i64 c3] := ((extT E2 E3).2 _ (by omega)).trans hb2
    cases hx : isF p 1 a with
    | false =>
      simp -implicitDefEqProofs (disch := omega) only [go_sem, hb3, hb4, Bool.false_and, Bool.true_and, or_true, true_or, if_true, if_false, false_and, and_false, true_and, reduceCtorEq]
      first | exact E' | exact ⟨rfl, E'⟩
    | true =>
    simp -implicitDefEqProofs (disch := omega) only [go_sem, hb3, hb4, Bool.false_and, Bool.true_and, or_true, true_or, if_true, if_false, false_and, and_false, true_and, reduceCtorEq]
    have q3' := hq.ext (extT E2 E3)
    have hn3 := (extT E2 E3).1
    have E4 : ExtB η3.nx η3 (η3.new (.live false [.int .i64 b, .int .i64 c3])) := extN (.refl _ _)
    refine thenN_call (is_then U (p := p) (l := [b, c3]) ((E4.2 _ (by omega)).trans hb3) (by show _ < η3.nx + 1; omega) (rdI_blk [b, c3] (by show (if η3.nx = η3.nx then _ else _) = _; rw [if_pos rfl]; rfl) (Nat.lt_succ_self _)) (by simp) (by simp only [List.mem_cons, List.not_mem_nil, or_false]; rintro n (rfl | rfl) <;> (apply has_lt; assumption)) (rdI_ext q3'.slots E4) h3 fun η5 E5 => ?_)
    rw [all2]
    have E6 := extT E' (extT E4 E5)
    simp -implicitDefEqProofs (disch := omega) only [go_sem, hb3, hb4, Bool.false_and, Bool.true_and, or_true, true_or, if_true, if_false, false_and, and_false, true_and, reduceCtorEq]
    first | exact E6 | exact ⟨rfl, E6⟩
  by_cases q15 : op = 15
  · subst q15
    have d0 : decide (15 = 0) = false := rfl
    simp -implicitDefEqProofs (disch := omega) only [d0, go_sem, hb, hb2, decide_true, decide_false, or_false, or_true, false_or, true_or, false_and, true_and, and_true, and_false, reduceCtorEq]
    have E2 : ExtB η1.nx η1 (η1.new (.live false [.int .i64 a])) := extN (.refl _ _)
    refine thenN_call (is_then U (p := p) (l := [a]) ((E2.2 _ hbn).trans hb) (by show _ < η1.nx + 1; omega) (rdI_blk [a] (by show (if η1.nx = η1.nx then _ else _) = _; rw [if_pos rfl]; rfl) (Nat.lt_succ_self _)) (by simp) (by simp only [List.mem_cons, List.not_mem_nil, or_false]; rintro n (rfl) <;> (apply has_lt; assumption)) (rdI_ext hq.slots E2) h3 fun η3 E3 => ?_)
    rw [all1]
    have E' := extT E (extT E2 E3)
    have hb3 : η3.f (η.nx + 1) = .live false z.cells := ((extT E2 E3).2 _ hbn).trans hb
    have hb4 : η3.f η.nx = .live false [.int .i64 15, .int .i64 a, .int .i64 b, .int .i64 c3] := ((extT E2 E3).2 _ (by omega)).trans hb2
    cases hx : isF p 1 a with
    | false =>
      simp -implicitDefEqProofs (disch := omega) only [go_sem, hb3, hb4, Bool.false_and, Bool.true_and, or_true, true_or, if_true, if_false, false_and, and_false, true_and, reduceCtorEq]
      first | exact E' | exact ⟨rfl, E'⟩
    | true =>
    simp -implicitDefEqProofs (disch := omega) only [go_sem, hb3, hb4, Bool.false_and, Bool.true_and, or_true, true_or, if_true, if_false, false_and, and_false, true_and, reduceCtorEq]
    have q3' := hq.ext (extT E2 E3)
    have hn3 := (extT E2 E3).1
    have E4 : ExtB η3.nx η3 (η3.new (.live false [.int .i64 b, .int .i64 c3])) := extN (.refl _ _)
    refine thenN_call (is_then U (p := p) (l := [b, c3]) ((E4.2 _ (by omega)).trans hb3) (by show _ < η3.nx + 1; omega) (rdI_blk [b, c3] (by show (if η3.nx = η3.nx then _ else _) = _; rw [if_pos rfl]; rfl) (Nat.lt_succ_self _)) (by simp) (by simp only [List.mem_cons, List.not_mem_nil, or_false]; rintro n (rfl | rfl) <;> (apply has_lt; assumption)) (rdI_ext q3'.slots E4) h3 fun η5 E5 => ?_)
    rw [all2]
    have E6 := extT E' (extT E4 E5)
    simp -implicitDefEqProofs (disch := omega) only [go_sem, hb3, hb4, Bool.false_and, Bool.true_and, or_true, true_or, if_true, if_false, false_and, and_false, true_and, reduceCtorEq]
    first | exact E6 | exact ⟨rfl, E6⟩
  obtain rfl : op = 13 := by omega
  have d0 : decide (13 = 0) = false := rfl
  simp -implicitDefEqProofs (disch := omega) only [d0, go_sem, hb, hb2, decide_true, decide_false, or_false, or_true, false_or, true_or, false_and, true_and, and_true, and_false, reduceCtorEq]
  have E2 : ExtB η1.nx η1 (((η1.at_ (η1.nx + (1 + 1 + 1))).new (.live false [.int .i64 a])).at_ (η1.nx + (1 + 1 + 1 + 1 + 1 + 1 + 1 + 1 + 1 + 1 + 1 + 1 + 1 + 1 + 1 + 1 + 1 + 1 + 1 + 1 + 1))) := extA (extN (extA (.refl _ _)))
  have hN : η1.nx + 21 = (((η1.at_ (η1.nx + (1 + 1 + 1))).new (.live false [.int .i64 a])).at_ (η1.nx + (1 + 1 + 1 + 1 + 1 + 1 + 1 + 1 + 1 + 1 + 1 + 1 + 1 + 1 + 1 + 1 + 1 + 1 + 1 + 1 + 1))).nx := rfl
  have r2 : RdI .i64 (((η1.at_ (η1.nx + (1 + 1 + 1))).new (.live false [.int .i64 a])).at_ (η1.nx + (1 + 1 + 1 + 1 + 1 + 1 + 1 + 1 + 1 + 1 + 1 + 1 + 1 + 1 + 1 + 1 + 1 + 1 + 1 + 1 + 1))) (.slice (η1.nx + (1 + 1 + 1)) 0 1 (.kn 1)) [a] := rdI_blk [a] (by show (if η1.nx + (1 + 1 + 1) = η1.nx + (1 + 1 + 1) then _ else _) = _; rw [if_pos rfl]; rfl) (by show η1.nx + (1 + 1 + 1) < η1.nx + (1 + 1 + 1 + 1 + 1 + 1 + 1 + 1 + 1 + 1 + 1 + 1 + 1 + 1 + 1 + 1 + 1 + 1 + 1 + 1 + 1); omega)
  refine dE_call (is_then U (p := p) (l := [a]) ((E2.2 _ hbn).trans hb) (by rw [← hN]; omega) r2 (by simp) (by simp only [List.mem_cons, List.not_mem_nil, or_false]; rintro n rfl; exact has_lt t1) (rdI_ext hq.slots E2) h3 fun η3 E3 => ?_)
  rw [all1]
  have E' := extT E (extT E2 E3)
  have hb3 : η3.f (η.nx + 1) = .live false z.cells := ((extT E2 E3).2 _ hbn).trans hb
  have hb4 : η3.f η.nx = .live false [.int .i64 13, .int .i64 a, .int .i64 b, .int .i64 c3] := ((extT E2 E3).2 _ (by omega)).trans hb2
  have q3 := hq.ext (extT E2 E3)
  cases hx : isF p 1 a with
  | false =>
    simp -implicitDefEqProofs (disch := omega) only [go_sem, hb3, hb4, Bool.false_and, Bool.true_and, or_true, true_or, if_true, if_false, false_and, and_false, true_and, reduceCtorEq, implies_true, not_le_f, false_implies, and_true]
    first | exact E' | exact ⟨rfl, E'⟩
  | true =>
  have u2 := has_lt t2
  have u3 := has_lt t3
  obtain ⟨b1, off1, cap1, ro1, row1, z1, hb1, hn1, hr1⟩ := q3.slots.at (has_lt t2)
  obtain ⟨b2, off2, cap2, ro2, row2, z2, hb2', hn2, hr2⟩ := q3.slots.at (has_lt t3)
  rw [z1] at z2
  cases z2
  rw [hb1] at hb2'
  cases hb2'
  rw [getD_get _ _ (has_lt t2), getD_get _ _ (has_lt t3)]
  simp -implicitDefEqProofs (disch := omega) only [go_sem, hb3, hb4, z1, hb1, hr1, hr2, Bool.false_and, Bool.true_and, or_true, true_or, if_true, if_false, false_and, and_false, true_and, reduceCtorEq, implies_true, not_le_f, false_implies, and_true]
  first | exact E' | exact ⟨rfl, E'⟩
end Go.Proofs.Ytjljolnhmmbkoaa
