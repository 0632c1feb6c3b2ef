/- What is proved: whether an instruction's kinds fit. what Clone of a set does. how a first way comes to a place. how another way comes to a place. Conditions: as each theorem says. -/
import Derived.Test.YtjljolnhmmbkoaaValA
set_option linter.unusedVariables false
set_option linter.unusedSimpArgs false
set_option linter.unusedSectionVars false
namespace Go.Proofs.Ytjljolnhmmbkoaa
open Go.Eng Go.Plain
set_option autoImplicit false
set_option maxRecDepth 100000
variable {nat : ∀ [Deep], Nats}
theorem flat1 {k : IntKind} : ∀ l : List Nat, l.map (AV.int k) = (l.map fun n => [AV.int k n]).flatten
 | [] => rfl
 | x :: l => by rw [List.map_cons, List.map_cons, List.flatten_cons, ← flat1 l]; rfl
theorem rdI_blk {k : IntKind} {η : HN} {b : Nat} {cap : Cp} {ro : Bool} (l : List Nat) (hb : η.f b = .live ro (l.map (.int k))) (hn : b < η.nx) : RdI k η (.slice b 0 l.length cap) l := by
 refine .inr ⟨b, 0, cap, ro, _, by rw [List.length_map], hb, hn, by simp, by simp, ?_⟩
 rw [List.drop_zero, List.take_of_length_le (by simp)]
 exact flat1 l
theorem all1 (q : Nat → Bool) (x : Nat) : [x].all q = q x := by simp
theorem all2 (q : Nat → Bool) (x y : Nat) : [x, y].all q = (q x && q y) := by simp
theorem all3 (q : Nat → Bool) (x y z : Nat) : [x, y, z].all q = (q x && (q y && q z)) := by simp
theorem has_lt {l : List Nat} {n : Nat} (h : has l n = true) : n < l.length := of_decide_eq_true h
theorem and_lt {a b : Bool} (h : (a && b) = true) : a = true ∧ b = true := Bool.and_eq_true_iff.1 h
set_option maxHeartbeats 2000000 in
theorem kinds_spec (U : Usual nat) (η : HN) (c : Nat) (ro : Bool) (z : PV) (p : PD) (pc : Nat) (i : Ins) (hc : η.f c = .live ro z.cells) (hcn : c < η.nx) (hp : IsP η z p) (hf : Fine p)
  (hi : i.op < 18446744073709551616 ∧ i.a < 18446744073709551616 ∧ i.b < 18446744073709551616 ∧ i.c < 18446744073709551616) (ht : thereF p pc i = true) :
  ∃ v η', CallN Try.prog nat 43 [.ptr c 0, .agg i.cells] η v η' ∧ v = .bool (kindsF p i) ∧ ExtB η.nx η η' := by
 refine call_of (PT := pl43) Try.func43 rfl (U 43 (by decide)) ok43 rfl ?_
 have h1 := hf.ins.1
 have h2 := hf.outs.1
 have h3 := hf.slots.1
 have h4 := hf.mems.1
 have h5 := hf.consts.1
 obtain ⟨op, a, b, c3⟩ := i
 obtain ⟨i0, i1, i2, i3⟩ := hi
 have hic : Ins.cells ⟨op, a, b, c3⟩ = [.int .i64 op, .int .i64 a, .int .i64 b, .int .i64 c3] := rfl
 have E : ExtB η.nx η (((η.new (.live false [.int .i64 op, .int .i64 a, .int .i64 b, .int .i64 c3])).new (.live false [.nilslice, .nilslice, .nilslice, .nilslice, .nilslice, .nilslice])).put (η.nx + 1) (.live false z.cells)) := extP (extN (extN (.refl _ _)))
 have hb : (((η.new (.live false [.int .i64 op, .int .i64 a, .int .i64 b, .int .i64 c3])).new (.live false [.nilslice, .nilslice, .nilslice, .nilslice, .nilslice, .nilslice])).put (η.nx + 1) (.live false z.cells)).f (η.nx + 1) = .live false z.cells := by show (if η.nx + 1 = η.nx + 1 then _ else _) = _; rw [if_pos rfl]
 have hb2 : (((η.new (.live false [.int .i64 op, .int .i64 a, .int .i64 b, .int .i64 c3])).new (.live false [.nilslice, .nilslice, .nilslice, .nilslice, .nilslice, .nilslice])).put (η.nx + 1) (.live false z.cells)).f η.nx = .live false [.int .i64 op, .int .i64 a, .int .i64 b, .int .i64 c3] := by
  show (if η.nx = η.nx + 1 then _ else if η.nx = η.nx + 1 then _ else if η.nx = η.nx then _ else _) = _; rw [if_neg (by omega), if_neg (by omega), if_pos rfl]
 have hnx : (((η.new (.live false [.int .i64 op, .int .i64 a, .int .i64 b, .int .i64 c3])).new (.live false [.nilslice, .nilslice, .nilslice, .nilslice, .nilslice, .nilslice])).put (η.nx + 1) (.live false z.cells)).nx = η.nx + 2 := rfl
 have hq := hp.ext E
 simp -implicitDefEqProofs (disch := omega) only [go_sem, hc, hic]
 generalize ((η.new (.live false [.int .i64 op, .int .i64 a, .int .i64 b, .int .i64 c3])).new (.live false [.nilslice, .nilslice, .nilslice, .nilslice, .nilslice, .nilslice])).put (η.nx + 1) (.live false z.cells) = η1 at *
 have hbn : η.nx + 1 < η1.nx := by omega
 unfold kindsF
 unfold thereF at ht
 dsimp only at ht ⊢
 by_cases q1 : op = 1
 ·subst q1
  have d0 : decide (1 = 0) = false := rfl
  rw [if_neg (by decide), if_pos (by decide)] at ht
  obtain ⟨t1, t2⟩ := and_lt ht
  have u1 := has_lt t1
  have u2 := has_lt t2
  obtain ⟨b1, off1, cap1, ro1, row1, z1, hb1, hn1, hr1⟩ := hq.slots.at (has_lt t1)
  obtain ⟨b2, off2, cap2, ro2, row2, z2, hb2', hn2, hr2⟩ := hq.slots.at (has_lt t2)
  rw [z1] at z2
  cases z2
  rw [hb1] at hb2'
  cases hb2'
  rw [getD_get _ _ (has_lt t1), getD_get _ _ (has_lt t2)]
  simp -implicitDefEqProofs (disch := omega) only [d0, go_sem, hb, hb2, z1, hb1, hr1, hr2, decide_true, decide_false, or_false, or_true, false_or, true_or, false_and, true_and, and_true, and_false, reduceCtorEq]
  first | exact E | exact ⟨rfl, E⟩
 by_cases q2 : op = 2
 ·subst q2
  have d0 : decide (2 = 0) = false := rfl
  rw [if_neg (by decide), if_neg (by decide), if_pos (by decide)] at ht
  obtain ⟨t1, t2⟩ := and_lt ht
  have u1 := has_lt t1
  have u2 := has_lt t2
  obtain ⟨b1, off1, cap1, ro1, row1, z1, hb1, hn1, hr1⟩ := hq.slots.at (has_lt t1)
  obtain ⟨b2, off2, cap2, ro2, row2, z2, hb2', hn2, hr2⟩ := hq.mems.at (has_lt t2)
  rw [getD_get _ _ (has_lt t1), getD_get _ _ (has_lt t2)]
  simp -implicitDefEqProofs (disch := omega) only [d0, go_sem, hb, hb2, z1, z2, hb1, hb2', hr1, hr2, decide_true, decide_false, or_false, or_true, false_or, true_or, false_and, true_and, and_true, and_false, reduceCtorEq]
  first | exact E | exact ⟨rfl, E⟩
 by_cases q3 : op = 3
 ·subst q3
  have d0 : decide (3 = 0) = false := rfl
  rw [if_neg (by decide), if_neg (by decide), if_neg (by decide), if_pos (by decide)] at ht
  obtain ⟨t1, t2⟩ := and_lt ht
  have u1 := has_lt t1
  have u2 := has_lt t2
  obtain ⟨b1, off1, cap1, ro1, row1, z1, hb1, hn1, hr1⟩ := hq.mems.at (has_lt t1)
  obtain ⟨b2, off2, cap2, ro2, row2, z2, hb2', hn2, hr2⟩ := hq.slots.at (has_lt t2)
  rw [getD_get _ _ (has_lt t1), getD_get _ _ (has_lt t2)]
  simp -implicitDefEqProofs (disch := omega) only [d0, go_sem, hb, hb2, z1, z2, hb1, hb2', hr1, hr2, decide_true, decide_false, or_false, or_true, false_or, true_or, false_and, true_and, and_true, and_false, reduceCtorEq]
  first | exact E | exact ⟨rfl, E⟩
 by_cases q4 : op = 4
 ·subst q4
  have d0 : decide (4 = 0) = false := rfl
  rw [if_neg (by decide), if_neg (by decide), if_neg (by decide), if_neg (by decide), if_pos (by decide)] at ht
  obtain ⟨t1, t2⟩ := and_lt ht
  have u1 := has_lt t1
  have u2 := has_lt t2
  obtain ⟨b1, off1, cap1, ro1, row1, z1, hb1, hn1, hr1⟩ := hq.slots.at (has_lt t1)
  obtain ⟨b2, off2, cap2, ro2, row2, z2, hb2', hn2, hr2⟩ := hq.ins.at (has_lt t2)
  rw [getD_get _ _ (has_lt t1), getD_get _ _ (has_lt t2)]
  simp -implicitDefEqProofs (disch := omega) only [d0, go_sem, hb, hb2, z1, z2, hb1, hb2', hr1, hr2, decide_true, decide_false, or_false, or_true, false_or, true_or, false_and, true_and, and_true, and_false, reduceCtorEq]
  first | exact E | exact ⟨rfl, E⟩
 by_cases q5 : op = 5
 ·subst q5
  have d0 : decide (5 = 0) = false := rfl
  rw [if_neg (by decide), if_neg (by decide), if_neg (by decide), if_neg (by decide), if_neg (by decide), if_pos (by decide)] at ht
  obtain ⟨t1, t2⟩ := and_lt ht
  have u1 := has_lt t1
  have u2 := has_lt t2
  obtain ⟨b1, off1, cap1, ro1, row1, z1, hb1, hn1, hr1⟩ := hq.outs.at (has_lt t1)
  obtain ⟨b2, off2, cap2, ro2, row2, z2, hb2', hn2, hr2⟩ := hq.slots.at (has_lt t2)
  rw [getD_get _ _ (has_lt t1), getD_get _ _ (has_lt t2)]
  simp -implicitDefEqProofs (disch := omega) only [d0, go_sem, hb, hb2, z1, z2, hb1, hb2', hr1, hr2, decide_true, decide_false, or_false, or_true, false_or, true_or, false_and, true_and, and_true, and_false, reduceCtorEq]
  first | exact E | exact ⟨rfl, E⟩
 by_cases q6 : op = 6
 ·subst q6
  have d0 : decide (6 = 0) = false := rfl
  rw [if_neg (by decide), if_pos (by decide)] at ht
  obtain ⟨t1, t2⟩ := and_lt ht
  simp -implicitDefEqProofs (disch := omega) only [d0, go_sem, hb, hb2, decide_true, decide_false, or_false, or_true, false_or, true_or, false_and, true_and, and_true, and_false, reduceCtorEq]
  have E2 : ExtB η1.nx η1 (η1.new (.live false [.int .i64 a, .int .i64 b])) := extN (.refl _ _)
  refine thenN_call (is_then U (p := p) (l := [a, b]) ((E2.2 _ hbn).trans hb) (by show _ < η1.nx + 1; omega) (rdI_blk [a, b] (by show (if η1.nx = η1.nx then _ else _) = _; rw [if_pos rfl]; rfl) (Nat.lt_succ_self _)) (by simp) (by simp only [List.mem_cons, List.not_mem_nil, or_false]; rintro n (rfl | rfl) <;> (apply has_lt; assumption)) (rdI_ext hq.slots E2) h3 fun η3 E3 => ?_)
  rw [all2]
  have E' := extT E (extT E2 E3)
  simp -implicitDefEqProofs (disch := omega) only [d0, go_sem, hb, hb2, decide_true, decide_false, or_false, or_true, false_or, true_or, false_and, true_and, and_true, and_false, reduceCtorEq]
  first | exact E' | exact ⟨rfl, E'⟩
 by_cases q7 : op = 7
 ·subst q7
  have d0 : decide (7 = 0) = false := rfl
  rw [if_neg (by decide), if_pos (by decide)] at ht
  obtain ⟨t1, t2⟩ := and_lt ht
  simp -implicitDefEqProofs (disch := omega) only [d0, go_sem, hb, hb2, decide_true, decide_false, or_false, or_true, false_or, true_or, false_and, true_and, and_true, and_false, reduceCtorEq]
  have E2 : ExtB η1.nx η1 (η1.new (.live false [.int .i64 a, .int .i64 b])) := extN (.refl _ _)
  refine thenN_call (is_then U (p := p) (l := [a, b]) ((E2.2 _ hbn).trans hb) (by show _ < η1.nx + 1; omega) (rdI_blk [a, b] (by show (if η1.nx = η1.nx then _ else _) = _; rw [if_pos rfl]; rfl) (Nat.lt_succ_self _)) (by simp) (by simp only [List.mem_cons, List.not_mem_nil, or_false]; rintro n (rfl | rfl) <;> (apply has_lt; assumption)) (rdI_ext hq.slots E2) h3 fun η3 E3 => ?_)
  rw [all2]
  have E' := extT E (extT E2 E3)
  simp -implicitDefEqProofs (disch := omega) only [d0, go_sem, hb, hb2, decide_true, decide_false, or_false, or_true, false_or, true_or, false_and, true_and, and_true, and_false, reduceCtorEq]
  first | exact E' | exact ⟨rfl, E'⟩
 by_cases q19 : op = 19
 ·subst q19
  have d0 : decide (19 = 0) = false := rfl
  rw [if_neg (by decide), if_neg (by decide), if_neg (by decide), if_neg (by decide), if_neg (by decide), if_neg (by decide), if_pos (by decide)] at ht
  have t1 := (and_lt ht).2
  simp -implicitDefEqProofs (disch := omega) only [d0, go_sem, hb, hb2, decide_true, decide_false, or_false, or_true, false_or, true_or, false_and, true_and, and_true, and_false, reduceCtorEq]
  have E2 : ExtB η1.nx η1 (η1.new (.live false [.int .i64 b])) := extN (.refl _ _)
  refine thenN_call (is_then U (p := p) (l := [b]) ((E2.2 _ hbn).trans hb) (by show _ < η1.nx + 1; omega) (rdI_blk [b] (by show (if η1.nx = η1.nx then _ else _) = _; rw [if_pos rfl]; rfl) (Nat.lt_succ_self _)) (by simp) (by simp only [List.mem_cons, List.not_mem_nil, or_false]; rintro n (rfl) <;> (apply has_lt; assumption)) (rdI_ext hq.slots E2) h3 fun η3 E3 => ?_)
  rw [all1]
  have E' := extT E (extT E2 E3)
  simp -implicitDefEqProofs (disch := omega) only [d0, go_sem, hb, hb2, decide_true, decide_false, or_false, or_true, false_or, true_or, false_and, true_and, and_true, and_false, reduceCtorEq]
  first | exact E' | exact ⟨rfl, E'⟩
 by_cases q0 : op = 0
 ·subst q0
  have d0 : decide (0 = 0) = true := rfl
  rw [if_pos (by decide)] at ht
  obtain ⟨t1, t2⟩ := and_lt ht
  simp -implicitDefEqProofs (disch := omega) only [d0, go_sem, hb, hb2, decide_true, decide_false, or_false, or_true, false_or, true_or, false_and, true_and, and_true, and_false, reduceCtorEq]
  have E2 : ExtB η1.nx η1 (η1.new (.live false [.int .i64 a])) := extN (.refl _ _)
  refine thenN_call (is_then U (p := p) (l := [a]) ((E2.2 _ hbn).trans hb) (by show _ < η1.nx + 1; omega) (rdI_blk [a] (by show (if η1.nx = η1.nx then _ else _) = _; rw [if_pos rfl]; rfl) (Nat.lt_succ_self _)) (by simp) (by simp only [List.mem_cons, List.not_mem_nil, or_false]; rintro n (rfl) <;> (apply has_lt; assumption)) (rdI_ext hq.slots E2) h3 fun η3 E3 => ?_)
  rw [all1]
  have E' := extT E (extT E2 E3)
  have q3 := hq.ext (extT E2 E3)
  have u2 := has_lt t2
  obtain ⟨b2, off2, cap2, ro2, row2, z2, hb2', hn2, hr2⟩ := q3.consts.at (has_lt t2)
  rw [getD_get _ _ (has_lt t2)]
  have hb3 : η3.f (η.nx + 1) = .live false z.cells := ((extT E2 E3).2 _ hbn).trans hb
  have hb4 : η3.f η.nx = .live false [.int .i64 0, .int .i64 a, .int .i64 b, .int .i64 c3] := ((extT E2 E3).2 _ (by omega)).trans hb2
  cases hx : isF p 2 a with
  | true =>
   simp -implicitDefEqProofs (disch := omega) only [go_sem, hb3, hb4, z2, hb2', hr2, Bool.false_or, Bool.true_or, if_true]
   first | exact E' | exact ⟨rfl, E'⟩
  | false =>
  by_cases y0 : p.consts[b] = 0
  ·simp -implicitDefEqProofs (disch := omega) only [go_sem, hb3, hb4, z2, hb2', hr2, Bool.false_or, Bool.true_or, if_true]
   first | exact E' | exact ⟨rfl, E'⟩
  by_cases y1 : p.consts[b] = 1
  ·simp -implicitDefEqProofs (disch := omega) only [go_sem, hb3, hb4, z2, hb2', hr2, Bool.false_or, Bool.true_or, if_true]
   first | exact E' | exact ⟨rfl, E'⟩
  simp -implicitDefEqProofs (disch := omega) only [go_sem, hb3, hb4, z2, hb2', hr2, Bool.false_or, Bool.true_or, if_true]
  first | exact E' | exact ⟨rfl, E'⟩
 by_cases q20 : op = 20
 ·subst q20
  have d0 : decide (20 = 0) = false := rfl
  simp -implicitDefEqProofs (disch := omega) only [d0, go_sem, hb, hb2, decide_true, decide_false, or_false, or_true, false_or, true_or, false_and, true_and, and_true, and_false, reduceCtorEq]
  first | exact E | exact ⟨rfl, E⟩
 rw [if_neg q0, if_neg (by omega), if_neg q2, if_neg q3, if_neg q4, if_neg q5, if_neg q19, if_neg q20] at ht
 obtain ⟨t0, ht⟩ := and_lt ht
 obtain ⟨t1, ht⟩ := and_lt ht
 obtain ⟨t2, t3⟩ := and_lt ht
 have t0 := of_decide_eq_true t0
 rw [if_neg q0, if_neg q1, if_neg q2, if_neg q3, if_neg q4, if_neg q5, if_neg q6, if_neg q7]
 by_cases q8 : op = 8
 ·subst q8
  have d0 : decide (8 = 0) = false := rfl
  simp -implicitDefEqProofs (disch := omega) only [d0, go_sem, hb, hb2, decide_true, decide_false, or_false, or_true, false_or, true_or, false_and, true_and, and_true, and_false, reduceCtorEq]
  have E2 : ExtB η1.nx η1 (η1.new (.live false [.int .i64 a, .int .i64 b, .int .i64 c3])) := extN (.refl _ _)
  refine thenN_call (is_then U (p := p) (l := [a, b, c3]) ((E2.2 _ hbn).trans hb) (by show _ < η1.nx + 1; omega) (rdI_blk [a, b, c3] (by show (if η1.nx = η1.nx then _ else _) = _; rw [if_pos rfl]; rfl) (Nat.lt_succ_self _)) (by simp) (by simp only [List.mem_cons, List.not_mem_nil, or_false]; rintro n (rfl | rfl | rfl) <;> (apply has_lt; assumption)) (rdI_ext hq.slots E2) h3 fun η3 E3 => ?_)
  rw [all3]
  have E' := extT E (extT E2 E3)
  simp -implicitDefEqProofs (disch := omega) only [d0, go_sem, hb, hb2, decide_true, decide_false, or_false, or_true, false_or, true_or, false_and, true_and, and_true, and_false, reduceCtorEq]
  first | exact E' | exact ⟨rfl, E'⟩
 by_cases q9 : op = 9
 ·subst q9
  have d0 : decide (9 = 0) = false := rfl
  simp -implicitDefEqProofs (disch := omega) only [d0, go_sem, hb, hb2, decide_true, decide_false, or_false, or_true, false_or, true_or, false_and, true_and, and_true, and_false, reduceCtorEq]
  have E2 : ExtB η1.nx η1 (η1.new (.live false [.int .i64 a, .int .i64 b, .int .i64 c3])) := extN (.refl _ _)
  refine thenN_call (is_then U (p := p) (l := [a, b, c3]) ((E2.2 _ hbn).trans hb) (by show _ < η1.nx + 1; omega) (rdI_blk [a, b, c3] (by show (if η1.nx = η1.nx then _ else _) = _; rw [if_pos rfl]; rfl) (Nat.lt_succ_self _)) (by simp) (by simp only [List.mem_cons, List.not_mem_nil, or_false]; rintro n (rfl | rfl | rfl) <;> (apply has_lt; assumption)) (rdI_ext hq.slots E2) h3 fun η3 E3 => ?_)
  rw [all3]
  have E' := extT E (extT E2 E3)
  simp -implicitDefEqProofs (disch := omega) only [d0, go_sem, hb, hb2, decide_true, decide_false, or_false, or_true, false_or, true_or, false_and, true_and, and_true, and_false, reduceCtorEq]
  first | exact E' | exact ⟨rfl, E'⟩
 by_cases q10 : op = 10
 ·subst q10
  have d0 : decide (10 = 0) = false := rfl
  simp -implicitDefEqProofs (disch := omega) only [d0, go_sem, hb, hb2, decide_true, decide_false, or_false, or_true, false_or, true_or, false_and, true_and, and_true, and_false, reduceCtorEq]
  have E2 : ExtB η1.nx η1 (η1.new (.live false [.int .i64 a, .int .i64 b, .int .i64 c3])) := extN (.refl _ _)
  refine thenN_call (is_then U (p := p) (l := [a, b, c3]) ((E2.2 _ hbn).trans hb) (by show _ < η1.nx + 1; omega) (rdI_blk [a, b, c3] (by show (if η1.nx = η1.nx then _ else _) = _; rw [if_pos rfl]; rfl) (Nat.lt_succ_self _)) (by simp) (by simp only [List.mem_cons, List.not_mem_nil, or_false]; rintro n (rfl | rfl | rfl) <;> (apply has_lt; assumption)) (rdI_ext hq.slots E2) h3 fun η3 E3 => ?_)
  rw [all3]
  have E' := extT E (extT E2 E3)
  simp -implicitDefEqProofs (disch := omega) only [d0, go_sem, hb, hb2, decide_true, decide_false, or_false, or_true, false_or, true_or, false_and, true_and, and_true, and_false, reduceCtorEq]
  first | exact E' | exact ⟨rfl, E'⟩
 by_cases q11 : op = 11
 ·subst q11
  have d0 : decide (11 = 0) = false := rfl
  simp -implicitDefEqProofs (disch := omega) only [d0, go_sem, hb, hb2, decide_true, decide_false, or_false, or_true, false_or, true_or, false_and, true_and, and_true, and_false, reduceCtorEq]
  have E2 : ExtB η1.nx η1 (η1.new (.live false [.int .i64 a, .int .i64 b, .int .i64 c3])) := extN (.refl _ _)
  refine thenN_call (is_then U (p := p) (l := [a, b, c3]) ((E2.2 _ hbn).trans hb) (by show _ < η1.nx + 1; omega) (rdI_blk [a, b, c3] (by show (if η1.nx = η1.nx then _ else _) = _; rw [if_pos rfl]; rfl) (Nat.lt_succ_self _)) (by simp) (by simp only [List.mem_cons, List.not_mem_nil, or_false]; rintro n (rfl | rfl | rfl) <;> (apply has_lt; assumption)) (rdI_ext hq.slots E2) h3 fun η3 E3 => ?_)
  rw [all3]
  have E' := extT E (extT E2 E3)
  simp -implicitDefEqProofs (disch := omega) only [d0, go_sem, hb, hb2, decide_true, decide_false, or_false, or_true, false_or, true_or, false_and, true_and, and_true, and_false, reduceCtorEq]
  first | exact E' | exact ⟨rfl, E'⟩
 by_cases q12 : op = 12
 ·subst q12
  have d0 : decide (12 = 0) = false := rfl
  simp -implicitDefEqProofs (disch := omega) only [d0, go_sem, hb, hb2, decide_true, decide_false, or_false, or_true, false_or, true_or, false_and, true_and, and_true, and_false, reduceCtorEq]
  have E2 : ExtB η1.nx η1 (η1.new (.live false [.int .i64 a, .int .i64 b, .int .i64 c3])) := extN (.refl _ _)
  refine thenN_call (is_then U (p := p) (l := [a, b, c3]) ((E2.2 _ hbn).trans hb) (by show _ < η1.nx + 1; omega) (rdI_blk [a, b, c3] (by show (if η1.nx = η1.nx then _ else _) = _; rw [if_pos rfl]; rfl) (Nat.lt_succ_self _)) (by simp) (by simp only [List.mem_cons, List.not_mem_nil, or_false]; rintro n (rfl | rfl | rfl) <;> (apply has_lt; assumption)) (rdI_ext hq.slots E2) h3 fun η3 E3 => ?_)
  rw [all3]
  have E' := extT E (extT E2 E3)
  simp -implicitDefEqProofs (disch := omega) only [d0, go_sem, hb, hb2, decide_true, decide_false, or_false, or_true, false_or, true_or, false_and, true_and, and_true, and_false, reduceCtorEq]
  first | exact E' | exact ⟨rfl, E'⟩
 rw [if_neg (by omega)]
 by_cases q16 : op = 16
 ·subst q16
  have d0 : decide (16 = 0) = false := rfl
  simp -implicitDefEqProofs (disch := omega) only [d0, go_sem, hb, hb2, decide_true, decide_false, or_false, or_true, false_or, true_or, false_and, true_and, and_true, and_false, reduceCtorEq]
  have E2 : ExtB η1.nx η1 (η1.new (.live false [.int .i64 a, .int .i64 b, .int .i64 c3])) := extN (.refl _ _)
  refine thenN_call (is_then U (p := p) (l := [a, b, c3]) ((E2.2 _ hbn).trans hb) (by show _ < η1.nx + 1; omega) (rdI_blk [a, b, c3] (by show (if η1.nx = η1.nx then _ else _) = _; rw [if_pos rfl]; rfl) (Nat.lt_succ_self _)) (by simp) (by simp only [List.mem_cons, List.not_mem_nil, or_false]; rintro n (rfl | rfl | rfl) <;> (apply has_lt; assumption)) (rdI_ext hq.slots E2) h3 fun η3 E3 => ?_)
  rw [all3]
  have E' := extT E (extT E2 E3)
  simp -implicitDefEqProofs (disch := omega) only [d0, go_sem, hb, hb2, decide_true, decide_false, or_false, or_true, false_or, true_or, false_and, true_and, and_true, and_false, reduceCtorEq]
  first | exact E' | exact ⟨rfl, E'⟩
 by_cases q17 : op = 17
 ·subst q17
  have d0 : decide (17 = 0) = false := rfl
  simp -implicitDefEqProofs (disch := omega) only [d0, go_sem, hb, hb2, decide_true, decide_false, or_false, or_true, false_or, true_or, false_and, true_and, and_true, and_false, reduceCtorEq]
  have E2 : ExtB η1.nx η1 (η1.new (.live false [.int .i64 a, .int .i64 b, .int .i64 c3])) := extN (.refl _ _)
  refine thenN_call (is_then U (p := p) (l := [a, b, c3]) ((E2.2 _ hbn).trans hb) (by show _ < η1.nx + 1; omega) (rdI_blk [a, b, c3] (by show (if η1.nx = η1.nx then _ else _) = _; rw [if_pos rfl]; rfl) (Nat.lt_succ_self _)) (by simp) (by simp only [List.mem_cons, List.not_mem_nil, or_false]; rintro n (rfl | rfl | rfl) <;> (apply has_lt; assumption)) (rdI_ext hq.slots E2) h3 fun η3 E3 => ?_)
  rw [all3]
  have E' := extT E (extT E2 E3)
  simp -implicitDefEqProofs (disch := omega) only [d0, go_sem, hb, hb2, decide_true, decide_false, or_false, or_true, false_or, true_or, false_and, true_and, and_true, and_false, reduceCtorEq]
  first | exact E' | exact ⟨rfl, E'⟩
 by_cases q18 : op = 18
 ·subst q18
  have d0 : decide (18 = 0) = false := rfl
  simp -implicitDefEqProofs (disch := omega) only [d0, go_sem, hb, hb2, decide_true, decide_false, or_false, or_true, false_or, true_or, false_and, true_and, and_true, and_false, reduceCtorEq]
  have E2 : ExtB η1.nx η1 (η1.new (.live false [.int .i64 a, .int .i64 b, .int .i64 c3])) := extN (.refl _ _)
  refine thenN_call (is_then U (p := p) (l := [a, b, c3]) ((E2.2 _ hbn).trans hb) (by show _ < η1.nx + 1; omega) (rdI_blk [a, b, c3] (by show (if η1.nx = η1.nx then _ else _) = _; rw [if_pos rfl]; rfl) (Nat.lt_succ_self _)) (by simp) (by simp only [List.mem_cons, List.not_mem_nil, or_false]; rintro n (rfl | rfl | rfl) <;> (apply has_lt; assumption)) (rdI_ext hq.slots E2) h3 fun η3 E3 => ?_)
  rw [all3]
  have E' := extT E (extT E2 E3)
  simp -implicitDefEqProofs (disch := omega) only [d0, go_sem, hb, hb2, decide_true, decide_false, or_false, or_true, false_or, true_or, false_and, true_and, and_true, and_false, reduceCtorEq]
  first | exact E' | exact ⟨rfl, E'⟩
 by_cases q14 : op = 14
 ·subst q14
  have d0 : decide (14 = 0) = false := rfl
  simp -implicitDefEqProofs (disch := omega) only [d0, go_sem, hb, hb2, decide_true, decide_false, or_false, or_true, false_or, true_or, false_and, true_and, and_true, and_false, reduceCtorEq]
  have E2 : ExtB η1.nx η1 (η1.new (.live false [.int .i64 a])) := extN (.refl _ _)
  refine thenN_call (is_then U (p := p) (l := [a]) ((E2.2 _ hbn).trans hb) (by show _ < η1.nx + 1; omega) (rdI_blk [a] (by show (if η1.nx = η1.nx then _ else _) = _; rw [if_pos rfl]; rfl) (Nat.lt_succ_self _)) (by simp) (by simp only [List.mem_cons, List.not_mem_nil, or_false]; rintro n (rfl) <;> (apply has_lt; assumption)) (rdI_ext hq.slots E2) h3 fun η3 E3 => ?_)
  rw [all1]
  have E' := extT E (extT E2 E3)
  have hb3 : η3.f (η.nx + 1) = .live false z.cells := ((extT E2 E3).2 _ hbn).trans hb
  have hb4 : η3.f η.nx = .live false [.int .i64 14, .int .i64 a, .int .i64 b, .int .i64 c3] := ((extT E2 E3).2 _ (by omega)).trans hb2
  cases hx : isF p 1 a with
  | false =>
   simp -implicitDefEqProofs (disch := omega) only [go_sem, hb3, hb4, Bool.false_and, Bool.true_and, or_true, true_or, if_true, if_false, false_and, and_false, true_and, reduceCtorEq]
   first | exact E' | exact ⟨rfl, E'⟩
  | true =>
  simp -implicitDefEqProofs (disch := omega) only [go_sem, hb3, hb4, Bool.false_and, Bool.true_and, or_true, true_or, if_true, if_false, false_and, and_false, true_and, reduceCtorEq]
  have q3' := hq.ext (extT E2 E3)
  have hn3 := (extT E2 E3).1
  have E4 : ExtB η3.nx η3 (η3.new (.live false [.int .i64 b, .int .i64 c3])) := extN (.refl _ _)
  refine thenN_call (is_then U (p := p) (l := [b, c3]) ((E4.2 _ (by omega)).trans hb3) (by show _ < η3.nx + 1; omega) (rdI_blk [b, c3] (by show (if η3.nx = η3.nx then _ else _) = _; rw [if_pos rfl]; rfl) (Nat.lt_succ_self _)) (by simp) (by simp only [List.mem_cons, List.not_mem_nil, or_false]; rintro n (rfl | rfl) <;> (apply has_lt; assumption)) (rdI_ext q3'.slots E4) h3 fun η5 E5 => ?_)
  rw [all2]
  have E6 := extT E' (extT E4 E5)
  simp -implicitDefEqProofs (disch := omega) only [go_sem, hb3, hb4, Bool.false_and, Bool.true_and, or_true, true_or, if_true, if_false, false_and, and_false, true_and, reduceCtorEq]
  first | exact E6 | exact ⟨rfl, E6⟩
 by_cases q15 : op = 15
 ·subst q15
  have d0 : decide (15 = 0) = false := rfl
  simp -implicitDefEqProofs (disch := omega) only [d0, go_sem, hb, hb2, decide_true, decide_false, or_false, or_true, false_or, true_or, false_and, true_and, and_true, and_false, reduceCtorEq]
  have E2 : ExtB η1.nx η1 (η1.new (.live false [.int .i64 a])) := extN (.refl _ _)
  refine thenN_call (is_then U (p := p) (l := [a]) ((E2.2 _ hbn).trans hb) (by show _ < η1.nx + 1; omega) (rdI_blk [a] (by show (if η1.nx = η1.nx then _ else _) = _; rw [if_pos rfl]; rfl) (Nat.lt_succ_self _)) (by simp) (by simp only [List.mem_cons, List.not_mem_nil, or_false]; rintro n (rfl) <;> (apply has_lt; assumption)) (rdI_ext hq.slots E2) h3 fun η3 E3 => ?_)
  rw [all1]
  have E' := extT E (extT E2 E3)
  have hb3 : η3.f (η.nx + 1) = .live false z.cells := ((extT E2 E3).2 _ hbn).trans hb
  have hb4 : η3.f η.nx = .live false [.int .i64 15, .int .i64 a, .int .i64 b, .int .i64 c3] := ((extT E2 E3).2 _ (by omega)).trans hb2
  cases hx : isF p 1 a with
  | false =>
   simp -implicitDefEqProofs (disch := omega) only [go_sem, hb3, hb4, Bool.false_and, Bool.true_and, or_true, true_or, if_true, if_false, false_and, and_false, true_and, reduceCtorEq]
   first | exact E' | exact ⟨rfl, E'⟩
  | true =>
  simp -implicitDefEqProofs (disch := omega) only [go_sem, hb3, hb4, Bool.false_and, Bool.true_and, or_true, true_or, if_true, if_false, false_and, and_false, true_and, reduceCtorEq]
  have q3' := hq.ext (extT E2 E3)
  have hn3 := (extT E2 E3).1
  have E4 : ExtB η3.nx η3 (η3.new (.live false [.int .i64 b, .int .i64 c3])) := extN (.refl _ _)
  refine thenN_call (is_then U (p := p) (l := [b, c3]) ((E4.2 _ (by omega)).trans hb3) (by show _ < η3.nx + 1; omega) (rdI_blk [b, c3] (by show (if η3.nx = η3.nx then _ else _) = _; rw [if_pos rfl]; rfl) (Nat.lt_succ_self _)) (by simp) (by simp only [List.mem_cons, List.not_mem_nil, or_false]; rintro n (rfl | rfl) <;> (apply has_lt; assumption)) (rdI_ext q3'.slots E4) h3 fun η5 E5 => ?_)
  rw [all2]
  have E6 := extT E' (extT E4 E5)
  simp -implicitDefEqProofs (disch := omega) only [go_sem, hb3, hb4, Bool.false_and, Bool.true_and, or_true, true_or, if_true, if_false, false_and, and_false, true_and, reduceCtorEq]
  first | exact E6 | exact ⟨rfl, E6⟩
 obtain rfl : op = 13 := by omega
 have d0 : decide (13 = 0) = false := rfl
 simp -implicitDefEqProofs (disch := omega) only [d0, go_sem, hb, hb2, decide_true, decide_false, or_false, or_true, false_or, true_or, false_and, true_and, and_true, and_false, reduceCtorEq]
 have E2 : ExtB η1.nx η1 (((η1.at_ (η1.nx + (1 + 1 + 1))).new (.live false [.int .i64 a])).at_ (η1.nx + (1 + 1 + 1 + 1 + 1 + 1 + 1 + 1 + 1 + 1 + 1 + 1 + 1 + 1 + 1 + 1 + 1 + 1 + 1 + 1 + 1))) := extA (extN (extA (.refl _ _)))
 have hN : η1.nx + 21 = (((η1.at_ (η1.nx + (1 + 1 + 1))).new (.live false [.int .i64 a])).at_ (η1.nx + (1 + 1 + 1 + 1 + 1 + 1 + 1 + 1 + 1 + 1 + 1 + 1 + 1 + 1 + 1 + 1 + 1 + 1 + 1 + 1 + 1))).nx := rfl
 have r2 : RdI .i64 (((η1.at_ (η1.nx + (1 + 1 + 1))).new (.live false [.int .i64 a])).at_ (η1.nx + (1 + 1 + 1 + 1 + 1 + 1 + 1 + 1 + 1 + 1 + 1 + 1 + 1 + 1 + 1 + 1 + 1 + 1 + 1 + 1 + 1))) (.slice (η1.nx + (1 + 1 + 1)) 0 1 (.kn 1)) [a] := rdI_blk [a] (by show (if η1.nx + (1 + 1 + 1) = η1.nx + (1 + 1 + 1) then _ else _) = _; rw [if_pos rfl]; rfl) (by show η1.nx + (1 + 1 + 1) < η1.nx + (1 + 1 + 1 + 1 + 1 + 1 + 1 + 1 + 1 + 1 + 1 + 1 + 1 + 1 + 1 + 1 + 1 + 1 + 1 + 1 + 1); omega)
 refine dE_call (is_then U (p := p) (l := [a]) ((E2.2 _ hbn).trans hb) (by rw [← hN]; omega) r2 (by simp) (by simp only [List.mem_cons, List.not_mem_nil, or_false]; rintro n rfl; exact has_lt t1) (rdI_ext hq.slots E2) h3 fun η3 E3 => ?_)
 rw [all1]
 have E' := extT E (extT E2 E3)
 have hb3 : η3.f (η.nx + 1) = .live false z.cells := ((extT E2 E3).2 _ hbn).trans hb
 have hb4 : η3.f η.nx = .live false [.int .i64 13, .int .i64 a, .int .i64 b, .int .i64 c3] := ((extT E2 E3).2 _ (by omega)).trans hb2
 have q3 := hq.ext (extT E2 E3)
 cases hx : isF p 1 a with
 | false =>
  simp -implicitDefEqProofs (disch := omega) only [go_sem, hb3, hb4, Bool.false_and, Bool.true_and, or_true, true_or, if_true, if_false, false_and, and_false, true_and, reduceCtorEq, implies_true, not_le_f, false_implies, and_true]
  first | exact E' | exact ⟨rfl, E'⟩
 | true =>
 have u2 := has_lt t2
 have u3 := has_lt t3
 obtain ⟨b1, off1, cap1, ro1, row1, z1, hb1, hn1, hr1⟩ := q3.slots.at (has_lt t2)
 obtain ⟨b2, off2, cap2, ro2, row2, z2, hb2', hn2, hr2⟩ := q3.slots.at (has_lt t3)
 rw [z1] at z2
 cases z2
 rw [hb1] at hb2'
 cases hb2'
 rw [getD_get _ _ (has_lt t2), getD_get _ _ (has_lt t3)]
 simp -implicitDefEqProofs (disch := omega) only [go_sem, hb3, hb4, z1, hb1, hr1, hr2, Bool.false_and, Bool.true_and, or_true, true_or, if_true, if_false, false_and, and_false, true_and, reduceCtorEq, implies_true, not_le_f, false_implies, and_true]
 first | exact E' | exact ⟨rfl, E'⟩
end Go.Proofs.Ytjljolnhmmbkoaa
namespace Go.Proofs.Ytjljolnhmmbkoaa
open Go.Eng Go.Plain
set_option autoImplicit false
set_option maxRecDepth 100000
variable {nat : ∀ [Deep], Nats}
@[go_sem] theorem good_24 : goodEq Try.prog 24 true = true := by kernel_rfl
@[go_sem] theorem eqns_24 {b o n : Nat} {c : Cp} : (eqB Try.prog 24).f (.slice b o n c) .nilslice = some false := by kernel_rfl
@[go_sem] theorem eqnn_24 : (eqB Try.prog 24).f .nilslice .nilslice = some true := by kernel_rfl
@[go_sem] theorem good_29 : goodEq Try.prog 29 true = true := by kernel_rfl
@[go_sem] theorem eqns_29 {b o n : Nat} {c : Cp} : (eqB Try.prog 29).f (.slice b o n c) .nilslice = some false := by kernel_rfl
@[go_sem] theorem eqnn_29 : (eqB Try.prog 29).f .nilslice .nilslice = some true := by kernel_rfl
@[go_sem] theorem good_30 : goodEq Try.prog 30 true = true := by kernel_rfl
@[go_sem] theorem eqns_30 {b o n : Nat} {c : Cp} : (eqB Try.prog 30).f (.slice b o n c) .nilslice = some false := by kernel_rfl
@[go_sem] theorem eqnn_30 : (eqB Try.prog 30).f .nilslice .nilslice = some true := by kernel_rfl
@[go_sem] theorem good_84 : goodEq Try.prog 84 true = true := by kernel_rfl
@[go_sem] theorem eqns_84 {b o n : Nat} {c : Cp} : (eqB Try.prog 84).f (.slice b o n c) .nilslice = some false := by kernel_rfl
@[go_sem] theorem good_93 : goodEq Try.prog 93 true = true := by kernel_rfl
@[go_sem] theorem eqns_93 {b o n : Nat} {c : Cp} : (eqB Try.prog 93).f (.slice b o n c) .nilslice = some false := by kernel_rfl
@[go_sem] theorem eqnn_93 : (eqB Try.prog 93).f .nilslice .nilslice = some true := by kernel_rfl
def u64s (l : List Nat) : List AV := l.map (.int .u64)
theorem u64s_len (l : List Nat) : (u64s l).length = l.length := List.length_map _
def OwnS (base : Nat) (η : HN) (v : AV) (ws : List Nat) : Prop := ∃ b cap, v = .slice b 0 ws.length cap ∧ base ≤ b ∧ b < η.nx ∧ η.f b = .live false (u64s ws)
theorem OwnS.mono {base c : Nat} {η : HN} {v : AV} {ws : List Nat} (h : OwnS base η v ws) (hc : c ≤ base) : OwnS c η v ws := by
 obtain ⟨b, cap, h1, h2, h3⟩ := h
 exact ⟨b, cap, h1, by omega, h3⟩
theorem clone_spec (U : Usual nat) (η : HN) (b : Nat) (cap : Cp) (ws : List Nat) (hb : η.f b = .live false (u64s ws)) (hbn : b < η.nx) (hl : ws.length ≤ 1099511627776) :
  ∃ v η', CallN Try.prog nat 102 [.slice b 0 ws.length cap] η v η' ∧ OwnS η.nx η' v ws ∧ ExtB η.nx η η' := by
 refine call_of (PT := pl102) Try.func102 rfl (U 102 (by decide)) ok102 rfl ?_
 have hul := u64s_len ws
 by_cases h0 : ws.length = 0
 ·obtain rfl : ws = [] := List.eq_nil_of_length_eq_zero h0
  simp -implicitDefEqProofs (disch := omega) only [go_sem, apSrc_sl, List.length_nil]
  exact ⟨⟨η.nx, .kn 0, rfl, Nat.le_refl _, Nat.lt_succ_self _, by show (if η.nx = η.nx then _ else _) = _; rw [if_pos rfl]; rfl⟩, extN (.refl _ _)⟩
 ·have hb1 : (η.new (.live false [])).f b = .live false (u64s ws) := by show (if b = η.nx then _ else _) = _; rw [if_neg (by omega)]; exact hb
  have hrow : rowN (.live false (u64s ws)) 0 (ws.length * 1) = some (u64s ws) := by
   rw [Nat.mul_one, rowN_at, if_pos (by omega), List.drop_zero, List.take_of_length_le (by omega)]
  simp -implicitDefEqProofs (disch := omega) only [go_sem, apSrc_sl, hb, hrow, apKn_new]
  refine ⟨⟨η.nx + 1, .un 1, rfl, Nat.le_succ _, Nat.lt_succ_self _, ?_⟩, extN (extN (.refl _ _))⟩
  show (if η.nx + 1 = η.nx + 1 then _ else _) = _
  rw [if_pos rfl]
end Go.Proofs.Ytjljolnhmmbkoaa
namespace Go.Proofs.Ytjljolnhmmbkoaa
open Go.Eng Go.Plain
set_option autoImplicit false
set_option maxRecDepth 100000
variable {nat : ∀ [Deep], Nats}
theorem meet_none (U : Usual nat) (η : HN) (bl off : Nat) (row : List AV) (b1 b2 : Nat) (cap1 cap2 : Cp) (w1 w2 : List Nat) (z1 z2 : AV) (hbl : η.f bl = .live false row) (hbn : bl < η.nx) (hlen : off + 3 ≤ row.length) (hr : row[off]? = some (.bool false))
  (h1 : η.f b1 = .live false (u64s w1)) (hn1 : b1 < η.nx) (h2 : η.f b2 = .live false (u64s w2)) (hn2 : b2 < η.nx) (hl1 : w1.length ≤ 1099511627776) (hl2 : w2.length ≤ 1099511627776) :
  ∃ v η', CallN Try.prog nat 83 [.ptr bl off, .agg [.bool true, .slice b1 0 w1.length cap1, .slice b2 0 w2.length cap2]] η v η' ∧
   ∃ c1 c2 k1 k2 η2, η' = η2.put bl (.live false (setsL row off [.bool true, .slice c1 0 w1.length k1, .slice c2 0 w2.length k2])) ∧ ExtB η.nx η η2 ∧ η.nx ≤ c1 ∧ c1 < c2 ∧ c2 < η2.nx ∧ η2.f c1 = .live false (u64s w1) ∧ η2.f c2 = .live false (u64s w2) := by
 refine call_of (PT := pl83) Try.func83 rfl (U 83 (by decide)) ok83 rfl ?_
 have hlt := (List.getElem?_eq_some_iff.1 hr).1
 simp -implicitDefEqProofs (disch := omega) only [go_sem, hbl, hr, okO]
 have E1 : ExtB η.nx η (η.new (.live false [.bool true, .slice b1 0 w1.length cap1, .slice b2 0 w2.length cap2])) := extN (.refl _ _)
 have hnx : (η.new (.live false [.bool true, .slice b1 0 w1.length cap1, .slice b2 0 w2.length cap2])).nx = η.nx + 1 := rfl
 have ht : (η.new (.live false [.bool true, .slice b1 0 w1.length cap1, .slice b2 0 w2.length cap2])).f η.nx = .live false [.bool true, .slice b1 0 w1.length cap1, .slice b2 0 w2.length cap2] := by show (if η.nx = η.nx then _ else _) = _; rw [if_pos rfl]
 generalize η.new (.live false [.bool true, .slice b1 0 w1.length cap1, .slice b2 0 w2.length cap2]) = η1 at *
 obtain ⟨v1, η2, k2, o2, E2⟩ := clone_spec U η1 b1 cap1 w1 ((E1.2 _ hn1).trans h1) (by omega) hl1
 refine dE_call ⟨_, _, k2, ?_⟩
 have e2 := E2.1
 have ht2 : η2.f η.nx = _ := (E2.2 _ (by omega)).trans ht
 simp -implicitDefEqProofs (disch := omega) only [go_sem, ht2, ht]
 have E12 := extT E1 E2
 obtain ⟨v2, η3, k3, o3, E3⟩ := clone_spec U η2 b2 cap2 w2 ((E12.2 _ hn2).trans h2) (by omega) hl2
 refine dE_call ⟨_, _, k3, ?_⟩
 have ht3 : η3.f η.nx = _ := (E3.2 _ (by omega)).trans ht2
 have E13 := extT E12 E3
 have hb3 : η3.f bl = _ := (E13.2 _ hbn).trans hbl
 have c1 : cellsV v1 = some [v1] := by obtain ⟨b, cap, rfl, _⟩ := o2; rfl
 have c2 : cellsV v2 = some [v2] := by obtain ⟨b, cap, rfl, _⟩ := o3; rfl
 simp -implicitDefEqProofs (disch := omega) only [go_sem, ht3, ht2, ht, c1, c2, hb3, not_le_f, false_implies, and_true, true_and, implies_true]
 obtain ⟨x1, y1, rfl, p1, q1, r1⟩ := o2
 obtain ⟨x2, y2, rfl, p2, q2, r2⟩ := o3
 exact ⟨x1, x2, y1, y2, η3, rfl, E13, by omega, by omega, q2, (E3.2 _ q1).trans r1, r2⟩
end Go.Proofs.Ytjljolnhmmbkoaa
namespace Go.Proofs.Ytjljolnhmmbkoaa
open Go.Eng Go.Plain
set_option autoImplicit false
set_option maxRecDepth 100000
variable {nat : ∀ [Deep], Nats}
def andW (w v : List Nat) : List Nat := List.zipWith (fun a b => a &&& b) w v
def mixW (w v : List Nat) (i : Nat) : List Nat := (andW w v).take i ++ w.drop i
theorem andW_len {w v : List Nat} (h : w.length = v.length) : (andW w v).length = w.length := by unfold andW; simp; omega
theorem mixW_len {w v : List Nat} (h : w.length = v.length) {i : Nat} (hi : i ≤ w.length) : (mixW w v i).length = w.length := by
 unfold mixW; rw [List.length_append, List.length_take, List.length_drop, andW_len h]; omega
theorem mixW_all {w v : List Nat} (h : w.length = v.length) : mixW w v w.length = andW w v := by
 unfold mixW; rw [List.drop_length, List.append_nil, List.take_of_length_le (by rw [andW_len h]; exact Nat.le_refl _)]
theorem mixW_at {w v : List Nat} (h : w.length = v.length) {i : Nat} (hi : i < w.length) : (mixW w v i)[i]? = some w[i] := by
 unfold mixW
 have hl : ((andW w v).take i).length = i := by rw [List.length_take, andW_len h]; omega
 rw [List.getElem?_append_right (by omega), hl, Nat.sub_self, List.getElem?_drop, Nat.add_zero, List.getElem?_eq_getElem hi]
theorem mixW_set {w v : List Nat} (h : w.length = v.length) {i : Nat} (hi : i < w.length) : (mixW w v i).set i (w[i] &&& v[i]'(by omega)) = mixW w v (i + 1) := by
 unfold mixW
 have hl : ((andW w v).take i).length = i := by rw [List.length_take, andW_len h]; omega
 rw [List.set_append, if_neg (by omega), hl, Nat.sub_self, List.drop_eq_getElem_cons hi, List.set_cons_zero, List.take_succ_eq_append_getElem (by rw [andW_len h]; exact hi), List.append_assoc]
 congr 2
 unfold andW
 rw [List.getElem_zipWith]
theorem u64s_at {w : List Nat} {i x : Nat} (h : w[i]? = some x) : (u64s w)[i]? = some (.int .u64 x) := by unfold u64s; rw [List.getElem?_map, h]; rfl
theorem u64s_set (w : List Nat) (i x : Nat) : (u64s w).set i (.int .u64 x) = u64s (w.set i x) := by unfold u64s; rw [List.map_set]
theorem put_put {η : HN} {b : Nat} {x y : BN} : (η.put b x).put b y = η.put b y := by
 show HN.mk _ _ = HN.mk _ _
 congr 1; funext c
 show (if c = b then _ else if c = b then _ else _) = (if c = b then _ else _)
 split <;> rfl
theorem put_self {η : HN} {b : Nat} {y : BN} (h : η.f b = y) : η.put b y = η := by
 cases η with
 | mk nx f =>
  show HN.mk _ _ = HN.mk _ _
  congr 1; funext c
  show (if c = b then _ else _) = _
  split
  ·rename_i e; rw [e]; exact h.symm
  ·rfl
def mtI (a c : Nat) (η1 : HN) (bl off t bs : Nat) (w v : List Nat) (m : Nat) (φ : FN) (η : HN) : Prop := ∃ i, m = w.length - i ∧ i ≤ w.length ∧ φ 0 = .ptr bl off ∧ φ 3 = .ptr t 0 ∧ φ a = .int .i64 w.length ∧ φ c = .int .i64 i ∧ η = η1.put bs (.live false (u64s (mixW w v i)))
set_option maxHeartbeats 1000000 in
theorem meet_some (U : Usual nat) (η : HN) (bl off : Nat) (row : List AV) (bs bo : Nat) (caps capo : Cp) (ws wo : List Nat) (b1 b2 : Nat) (cap1 cap2 : Cp) (w1 w2 : List Nat) (hbl : η.f bl = .live false row) (hbn : bl < η.nx) (hlen : off + 3 ≤ row.length) (hr : row[off]? = some (.bool true))
  (hr1 : row[off + 1]? = some (.slice bs 0 ws.length caps)) (hr2 : row[off + 2]? = some (.slice bo 0 wo.length capo)) (hs : η.f bs = .live false (u64s ws)) (ho : η.f bo = .live false (u64s wo)) (hsn : bs < η.nx) (hon : bo < η.nx)
  (h1 : η.f b1 = .live false (u64s w1)) (hn1 : b1 < η.nx) (h2 : η.f b2 = .live false (u64s w2)) (hn2 : b2 < η.nx) (hl1 : ws.length = w1.length) (hl2 : wo.length = w2.length) (m1 : ws.length ≤ 1099511627776) (m2 : wo.length ≤ 1099511627776)
  (d1 : bs ≠ bl) (d2 : bo ≠ bl) (d3 : bs ≠ bo) (d4 : b1 ≠ bs) (d5 : b2 ≠ bs) (d6 : b2 ≠ bo) :
  ∃ v η', CallN Try.prog nat 83 [.ptr bl off, .agg [.bool true, .slice b1 0 w1.length cap1, .slice b2 0 w2.length cap2]] η v η' ∧
   ∃ η2, η' = (η2.put bs (.live false (u64s (andW ws w1)))).put bo (.live false (u64s (andW wo w2))) ∧ ExtB η.nx η η2 := by
 refine call_of (PT := pl83) Try.func83 rfl (U 83 (by decide)) ok83 rfl ?_
 have hlt := (List.getElem?_eq_some_iff.1 hr).1
 simp -implicitDefEqProofs (disch := omega) only [go_sem, hbl, hr, hr1, hr2, okO]
 have E1 : ExtB η.nx η (η.new (.live false [.bool true, .slice b1 0 w1.length cap1, .slice b2 0 w2.length cap2])) := extN (.refl _ _)
 have hnx : (η.new (.live false [.bool true, .slice b1 0 w1.length cap1, .slice b2 0 w2.length cap2])).nx = η.nx + 1 := rfl
 have ht : (η.new (.live false [.bool true, .slice b1 0 w1.length cap1, .slice b2 0 w2.length cap2])).f η.nx = .live false [.bool true, .slice b1 0 w1.length cap1, .slice b2 0 w2.length cap2] := by show (if η.nx = η.nx then _ else _) = _; rw [if_pos rfl]
 generalize η.new (.live false [.bool true, .slice b1 0 w1.length cap1, .slice b2 0 w2.length cap2]) = η1 at *
 have f1 := E1.2
 have hbl1 := (f1 _ hbn).trans hbl
 have hs1 := (f1 _ hsn).trans hs
 have ho1 := (f1 _ hon).trans ho
 have h11 := (f1 _ hn1).trans h1
 have h21 := (f1 _ hn2).trans h2
 refine wpN_loop (mtI 24 25 η1 bl off η.nx bs ws w1) ws.length ⟨0, by omega, by omega, rfl, rfl, rfl, rfl, (put_self hs1).symm⟩ ?_
 rintro m φ η2 ⟨i, hm, hi, p0, p3, p24, p25, rfl⟩
 by_cases hlt2 : i < ws.length
 ·have g1 := u64s_at (mixW_at hl1 hlt2)
  have g2 := u64s_at (w := w1) (i := i) (List.getElem?_eq_getElem (by omega))
  have gl := u64s_len (mixW ws w1 i)
  have gl2 := mixW_len hl1 hi
  have gl3 := u64s_len w1
  simp -implicitDefEqProofs (disch := omega) only [go_sem, p0, p3, p24, p25, hbl1, hr1, ht, h11, g1, g2, okO, not_le_f, false_implies, and_true, true_and, implies_true]
  exact ⟨ws.length - (i + 1), by omega, i + 1, rfl, by omega, p0, p3, p24, rfl, by rw [put_put, u64s_set, mixW_set hl1 hlt2]⟩
 obtain rfl : i = ws.length := by omega
 rw [mixW_all hl1]
 simp -implicitDefEqProofs (disch := omega) only [go_sem, p0, p3, p24, p25, hbl1, hr2, okO]
 have ht3 : (η1.put bs (.live false (u64s (andW ws w1)))).f η.nx = .live false [.bool true, .slice b1 0 w1.length cap1, .slice b2 0 w2.length cap2] := by show (if η.nx = bs then _ else _) = _; rw [if_neg (by omega)]; exact ht
 have hb3 : (η1.put bs (.live false (u64s (andW ws w1)))).f bl = .live false row := by show (if bl = bs then _ else _) = _; rw [if_neg (by omega)]; exact hbl1
 have ho3 : (η1.put bs (.live false (u64s (andW ws w1)))).f bo = .live false (u64s wo) := by show (if bo = bs then _ else _) = _; rw [if_neg (by omega)]; exact ho1
 have h23 : (η1.put bs (.live false (u64s (andW ws w1)))).f b2 = .live false (u64s w2) := by show (if b2 = bs then _ else _) = _; rw [if_neg (by omega)]; exact h21
 refine wpN_loop (mtI 47 48 (η1.put bs (.live false (u64s (andW ws w1)))) bl off η.nx bo wo w2) wo.length ⟨0, by omega, by omega, p0, p3, rfl, rfl, (put_self ho3).symm⟩ ?_
 rintro m φ η2 ⟨i, hm, hi, p0, p3, p24, p25, rfl⟩
 by_cases hlt2 : i < wo.length
 ·have g1 := u64s_at (mixW_at hl2 hlt2)
  have g2 := u64s_at (w := w2) (i := i) (List.getElem?_eq_getElem (by omega))
  have gl := u64s_len (mixW wo w2 i)
  have gl2 := mixW_len hl2 hi
  have gl3 := u64s_len w2
  simp -implicitDefEqProofs (disch := omega) only [go_sem, p0, p3, p24, p25, hbl1, hr2, ht, h21, g1, g2, okO, not_le_f, false_implies, and_true, true_and, implies_true]
  exact ⟨wo.length - (i + 1), by omega, i + 1, rfl, by omega, p0, p3, p24, rfl, by rw [put_put, u64s_set, mixW_set hl2 hlt2]⟩
 obtain rfl : i = wo.length := by omega
 rw [mixW_all hl2]
 simp -implicitDefEqProofs (disch := omega) only [go_sem, p0, p3, p24, p25, hbl1, hr2, okO]
 exact ⟨η1, rfl, E1⟩
end Go.Proofs.Ytjljolnhmmbkoaa
