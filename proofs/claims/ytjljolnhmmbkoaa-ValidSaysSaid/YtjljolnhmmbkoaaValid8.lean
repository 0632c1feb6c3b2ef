/- What is proved: whether what an instruction names is there. Conditions: none. -/
import Derived.Test.YtjljolnhmmbkoaaValid7
set_option linter.unusedVariables false
set_option linter.unusedSimpArgs false
set_option linter.unusedSectionVars false
namespace Go.Proofs.Ytjljolnhmmbkoaa
open Go.Eng Go.Plain
set_option autoImplicit false
set_option maxRecDepth 100000
variable {nat : ∀ [Deep], Nats}
theorem within_call (U : Usual nat) (η : HN) (y : AV) (l : List Nat) (n : Nat) (hn : n < 18446744073709551616) (hm : l.length ≤ 1099511627776) (hy : ∀ e y' η', lenN (.slice e 1 y') y η' = .ok (.int .i64 l.length) η') : CallN Try.prog nat 76 [y, .int .i64 n] η (.bool (has l n)) η := by
  obtain ⟨v, η', k, rfl, rfl⟩ := within_spec (U 76 (by decide)) η y n l.length hn (by omega) hy
  exact k
theorem within2_call (U : Usual nat) (η : HN) (y : AV) (l : List Nat) (n : Nat) (hn : n < 18446744073709551616) (hm : l.length ≤ 1099511627776) (hy : ∀ e y' η', lenN (.slice e 1 y') y η' = .ok (.int .i64 l.length) η') : CallN Try.prog nat 77 [y, .int .i64 n] η (.bool (has l n)) η := by
  obtain ⟨v, η', k, rfl, rfl⟩ := within2_spec (U 77 (by decide)) η y n l.length hn (by omega) hy
  exact k
theorem target_call (U : Usual nat) (η : HN) (c : Nat) (ro : Bool) (z : PV) (p : PD) (pc to : Nat) (hc : η.f c = .live ro z.cells) (hpc : pc ≤ 9223372036854775807) (hto : to < 18446744073709551616) (hm : p.code.length ≤ 1099511627776) (hy : ∀ e y' η', lenN (.slice e 4 y') z.z6 η' = .ok (.int .i64 p.code.length) η') :
    CallN Try.prog nat 78 [.ptr c 0, .int .i64 pc, .int .i64 to] η (.bool (targetF p pc to)) η := by
  obtain ⟨v, η', k, rfl, rfl⟩ := target_spec (U 78 (by decide)) η c ro _ _ _ _ _ _ pc to p.code.length hc hpc hto (by omega) hy
  rw [Bool.decide_and] at k
  exact k
theorem slot_call (U : Usual nat) (η : HN) (b : Nat) (ro : Bool) (z : PV) (p : PD) (n : Nat) (hb : η.f b = .live ro z.cells) (hn : n < 18446744073709551616) (hm : p.slots.length ≤ 1099511627776) (hy : ∀ e y' η', lenN (.slice e 1 y') z.z3 η' = .ok (.int .i64 p.slots.length) η') :
    CallN Try.prog nat 75 [.int .i64 n, .ptr b 0] η (.bool (has p.slots n)) η := by
  have : ∃ v η', CallN Try.prog nat 75 [.int .i64 n, .ptr b 0] η v η' ∧ v = .bool (has p.slots n) ∧ η' = η := by
    refine call_of (PT := pl75) Try.func75 rfl (U 75 (by decide)) ok75 rfl ?_
    simp -implicitDefEqProofs (disch := omega) only [go_sem, hb]
    refine thenN_call ⟨_, _, within_call U _ _ p.slots _ hn hm hy, ?_⟩
    simp -implicitDefEqProofs (disch := omega) only [go_sem, hb]
  obtain ⟨v, η', k, rfl, rfl⟩ := this
  exact k
theorem operands_call (U : Usual nat) (η : HN) (op : Nat) (hop : op < 18446744073709551616) : CallN Try.prog nat 79 [.int .i64 op] η (.int .i64 (if op < 20 then (if 8 ≤ op ∧ op ≤ 18 then 3 else 2) else if op = 20 then 1 else 0)) η := by
  obtain ⟨v, η', k, rfl, rfl⟩ := operands_spec (U 79 (by decide)) η op hop
  exact k
set_option maxHeartbeats 1000000 in
theorem there_spec (U : Usual nat) (η : HN) (c : Nat) (ro : Bool) (z : PV) (p : PD) (pc : Nat) (i : Ins) (hc : η.f c = .live ro z.cells) (hcn : c < η.nx) (hp : IsP η z p) (hf : Fine p) (hpc : pc ≤ 9223372036854775807)
    (hi : i.op < 18446744073709551616 ∧ i.a < 18446744073709551616 ∧ i.b < 18446744073709551616 ∧ i.c < 18446744073709551616) :
    ∃ v η', CallN Try.prog nat 42 [.ptr c 0, .int .i64 pc, .agg i.cells] η v η' ∧ v = .bool (thereF p pc i) ∧ ExtB η.nx η η' := by
  refine call_of (PT := pl42) Try.func42 rfl (U 42 (by decide)) ok42 rfl ?_
  have l1 := rdI_len hp.ins hf.ins.1
  have l2 := rdI_len hp.outs hf.outs.1
  have l3 := rdI_len hp.slots hf.slots.1
  have l4 := rdI_len hp.mems hf.mems.1
  have l5 := rdI_len hp.consts hf.consts.1
  have l6 := rdC_len hp.code hf.code.1
  obtain ⟨op, a, b, c3⟩ := i
  obtain ⟨i0, i1, i2, i3⟩ := hi
  have hic : Ins.cells ⟨op, a, b, c3⟩ = [.int .i64 op, .int .i64 a, .int .i64 b, .int .i64 c3] := rfl
  have E : ExtB η.nx η (((η.new (.live false [.int .i64 op, .int .i64 a, .int .i64 b, .int .i64 c3])).new (.live false [.nilslice, .nilslice, .nilslice, .nilslice, .nilslice, .nilslice])).put (η.nx + 1) (.live false z.cells)) := extP (extN (extN (.refl _ _)))
  have hb : (((η.new (.live false [.int .i64 op, .int .i64 a, .int .i64 b, .int .i64 c3])).new (.live false [.nilslice, .nilslice, .nilslice, .nilslice, .nilslice, .nilslice])).put (η.nx + 1) (.live false z.cells)).f (η.nx + 1) = .live false z.cells := by show (if η.nx + 1 = η.nx + 1 then _ else _) = _; rw [if_pos rfl]
  have hb2 : (((η.new (.live false [.int .i64 op, .int .i64 a, .int .i64 b, .int .i64 c3])).new (.live false [.nilslice, .nilslice, .nilslice, .nilslice, .nilslice, .nilslice])).put (η.nx + 1) (.live false z.cells)).f η.nx = .live false [.int .i64 op, .int .i64 a, .int .i64 b, .int .i64 c3] := by
    show (if η.nx = η.nx + 1 then _ else if η.nx = η.nx + 1 then _ else if η.nx = η.nx then _ else _) = _; rw [if_neg (by omega), if_neg (by omega), if_pos rfl]
  have hc2 : (((η.new (.live false [.int .i64 op, .int .i64 a, .int .i64 b, .int .i64 c3])).new (.live false [.nilslice, .nilslice, .nilslice, .nilslice, .nilslice, .nilslice])).put (η.nx + 1) (.live false z.cells)).f c = .live ro z.cells := (E.2 c hcn).trans hc
  simp -implicitDefEqProofs (disch := omega) only [go_sem, hc, hic]
  generalize ((η.new (.live false [.int .i64 op, .int .i64 a, .int .i64 b, .int .i64 c3])).new (.live false [.nilslice, .nilslice, .nilslice, .nilslice, .nilslice, .nilslice])).put (η.nx + 1) (.live false z.cells) = η1 at *
  unfold thereF
  dsimp only
  by_cases q0 : op = 0
  · subst q0
    simp -implicitDefEqProofs (disch := omega) only [go_sem, hb, hb2, or_false, or_true, false_or, true_or, reduceCtorEq]
    refine thenN_call ⟨_, _, slot_call U _ _ _ z p _ hb i1 hf.slots.1 l3, ?_⟩
    cases hx0 : has p.slots a with
    | false =>
      simp -implicitDefEqProofs (disch := omega) only [go_sem, hb, hb2, Bool.false_and]
      first | exact E | exact ⟨rfl, E⟩
    | true =>
    simp -implicitDefEqProofs (disch := omega) only [go_sem, hb, hb2, Bool.true_and]
    refine thenN_call ⟨_, _, within2_call U _ _ p.consts _ i2 hf.consts.1 l5, ?_⟩
    simp -implicitDefEqProofs (disch := omega) only [go_sem, hb, hb2, true_and]
    first | exact E | exact ⟨rfl, E⟩
  by_cases q1 : op = 1
  · subst q1
    simp -implicitDefEqProofs (disch := omega) only [go_sem, hb, hb2, or_false, or_true, false_or, true_or, reduceCtorEq]
    refine thenN_call ⟨_, _, slot_call U _ _ _ z p _ hb i1 hf.slots.1 l3, ?_⟩
    cases hx0 : has p.slots a with
    | false =>
      simp -implicitDefEqProofs (disch := omega) only [go_sem, hb, hb2, Bool.false_and]
      first | exact E | exact ⟨rfl, E⟩
    | true =>
    simp -implicitDefEqProofs (disch := omega) only [go_sem, hb, hb2, Bool.true_and]
    refine thenN_call ⟨_, _, slot_call U _ _ _ z p _ hb i2 hf.slots.1 l3, ?_⟩
    simp -implicitDefEqProofs (disch := omega) only [go_sem, hb, hb2, true_and]
    first | exact E | exact ⟨rfl, E⟩
  by_cases q6 : op = 6
  · subst q6
    simp -implicitDefEqProofs (disch := omega) only [go_sem, hb, hb2, or_false, or_true, false_or, true_or, reduceCtorEq]
    refine thenN_call ⟨_, _, slot_call U _ _ _ z p _ hb i1 hf.slots.1 l3, ?_⟩
    cases hx0 : has p.slots a with
    | false =>
      simp -implicitDefEqProofs (disch := omega) only [go_sem, hb, hb2, Bool.false_and]
      first | exact E | exact ⟨rfl, E⟩
    | true =>
    simp -implicitDefEqProofs (disch := omega) only [go_sem, hb, hb2, Bool.true_and]
    refine thenN_call ⟨_, _, slot_call U _ _ _ z p _ hb i2 hf.slots.1 l3, ?_⟩
    simp -implicitDefEqProofs (disch := omega) only [go_sem, hb, hb2, true_and]
    first | exact E | exact ⟨rfl, E⟩
  by_cases q7 : op = 7
  · subst q7
    simp -implicitDefEqProofs (disch := omega) only [go_sem, hb, hb2, or_false, or_true, false_or, true_or, reduceCtorEq]
    refine thenN_call ⟨_, _, slot_call U _ _ _ z p _ hb i1 hf.slots.1 l3, ?_⟩
    cases hx0 : has p.slots a with
    | false =>
      simp -implicitDefEqProofs (disch := omega) only [go_sem, hb, hb2, Bool.false_and]
      first | exact E | exact ⟨rfl, E⟩
    | true =>
    simp -implicitDefEqProofs (disch := omega) only [go_sem, hb, hb2, Bool.true_and]
    refine thenN_call ⟨_, _, slot_call U _ _ _ z p _ hb i2 hf.slots.1 l3, ?_⟩
    simp -implicitDefEqProofs (disch := omega) only [go_sem, hb, hb2, true_and]
    first | exact E | exact ⟨rfl, E⟩
  by_cases q2 : op = 2
  · subst q2
    simp -implicitDefEqProofs (disch := omega) only [go_sem, hb, hb2, or_false, or_true, false_or, true_or, reduceCtorEq]
    refine thenN_call ⟨_, _, slot_call U _ _ _ z p _ hb i1 hf.slots.1 l3, ?_⟩
    cases hx0 : has p.slots a with
    | false =>
      simp -implicitDefEqProofs (disch := omega) only [go_sem, hb, hb2, Bool.false_and]
      first | exact E | exact ⟨rfl, E⟩
    | true =>
    simp -implicitDefEqProofs (disch := omega) only [go_sem, hb, hb2, Bool.true_and]
    refine thenN_call ⟨_, _, within_call U _ _ p.mems _ i2 hf.mems.1 l4, ?_⟩
    simp -implicitDefEqProofs (disch := omega) only [go_sem, hb, hb2, true_and]
    first | exact E | exact ⟨rfl, E⟩
  by_cases q3 : op = 3
  · subst q3
    simp -implicitDefEqProofs (disch := omega) only [go_sem, hb, hb2, or_false, or_true, false_or, true_or, reduceCtorEq]
    refine thenN_call ⟨_, _, within_call U _ _ p.mems _ i1 hf.mems.1 l4, ?_⟩
    cases hx0 : has p.mems a with
    | false =>
      simp -implicitDefEqProofs (disch := omega) only [go_sem, hb, hb2, Bool.false_and]
      first | exact E | exact ⟨rfl, E⟩
    | true =>
    simp -implicitDefEqProofs (disch := omega) only [go_sem, hb, hb2, Bool.true_and]
    refine thenN_call ⟨_, _, slot_call U _ _ _ z p _ hb i2 hf.slots.1 l3, ?_⟩
    simp -implicitDefEqProofs (disch := omega) only [go_sem, hb, hb2, true_and]
    first | exact E | exact ⟨rfl, E⟩
  by_cases q4 : op = 4
  · subst q4
    simp -implicitDefEqProofs (disch := omega) only [go_sem, hb, hb2, or_false, or_true, false_or, true_or, reduceCtorEq]
    refine thenN_call ⟨_, _, slot_call U _ _ _ z p _ hb i1 hf.slots.1 l3, ?_⟩
    cases hx0 : has p.slots a with
    | false =>
      simp -implicitDefEqProofs (disch := omega) only [go_sem, hb, hb2, Bool.false_and]
      first | exact E | exact ⟨rfl, E⟩
    | true =>
    simp -implicitDefEqProofs (disch := omega) only [go_sem, hb, hb2, Bool.true_and]
    refine thenN_call ⟨_, _, within_call U _ _ p.ins _ i2 hf.ins.1 l1, ?_⟩
    simp -implicitDefEqProofs (disch := omega) only [go_sem, hb, hb2, true_and]
    first | exact E | exact ⟨rfl, E⟩
  by_cases q5 : op = 5
  · subst q5
    simp -implicitDefEqProofs (disch := omega) only [go_sem, hb, hb2, or_false, or_true, false_or, true_or, reduceCtorEq]
    refine thenN_call ⟨_, _, within_call U _ _ p.outs _ i1 hf.outs.1 l2, ?_⟩
    cases hx0 : has p.outs a with
    | false =>
      simp -implicitDefEqProofs (disch := omega) only [go_sem, hb, hb2, Bool.false_and]
      first | exact E | exact ⟨rfl, E⟩
    | true =>
    simp -implicitDefEqProofs (disch := omega) only [go_sem, hb, hb2, Bool.true_and]
    refine thenN_call ⟨_, _, slot_call U _ _ _ z p _ hb i2 hf.slots.1 l3, ?_⟩
    simp -implicitDefEqProofs (disch := omega) only [go_sem, hb, hb2, true_and]
    first | exact E | exact ⟨rfl, E⟩
  by_cases q19 : op = 19
  · subst q19
    simp -implicitDefEqProofs (disch := omega) only [go_sem, hb, hb2, or_false, or_true, false_or, true_or, reduceCtorEq]
    refine thenN_call ⟨_, _, target_call U _ _ _ z p _ _ hc2 hpc i1 hf.code.1 l6, ?_⟩
    cases hx0 : targetF p pc a with
    | false =>
      simp -implicitDefEqProofs (disch := omega) only [go_sem, hb, hb2, Bool.false_and]
      first | exact E | exact ⟨rfl, E⟩
    | true =>
    simp -implicitDefEqProofs (disch := omega) only [go_sem, hb, hb2, Bool.true_and]
    refine thenN_call ⟨_, _, slot_call U _ _ _ z p _ hb i2 hf.slots.1 l3, ?_⟩
    simp -implicitDefEqProofs (disch := omega) only [go_sem, hb, hb2, true_and]
    first | exact E | exact ⟨rfl, E⟩
  by_cases q20 : op = 20
  · subst q20
    simp -implicitDefEqProofs (disch := omega) only [go_sem, hb, hb2, or_false, or_true, false_or, true_or, reduceCtorEq]
    refine thenN_call ⟨_, _, target_call U _ _ _ z p _ _ hc2 hpc i1 hf.code.1 l6, ?_⟩
    simp -implicitDefEqProofs (disch := omega) only [go_sem, hb, hb2, true_and]
    first | exact E | exact ⟨rfl, E⟩
  rw [if_neg q0, if_neg (by omega), if_neg q2, if_neg q3, if_neg q4, if_neg q5, if_neg q19, if_neg q20]
  simp -implicitDefEqProofs (disch := omega) only [go_sem, hb, hb2]
  refine thenN_call ⟨_, _, operands_call U _ _ i0, ?_⟩
  by_cases q8 : 8 ≤ op ∧ op ≤ 18
  · rw [if_pos (by omega), if_pos q8, decide_eq_true q8, Bool.true_and]
    simp -implicitDefEqProofs (disch := omega) only [go_sem, hb, hb2]
    refine thenN_call ⟨_, _, slot_call U _ _ _ z p _ hb i1 hf.slots.1 l3, ?_⟩
    cases hx0 : has p.slots a with
    | false =>
      simp -implicitDefEqProofs (disch := omega) only [go_sem, hb, hb2, Bool.false_and]
      first | exact E | exact ⟨rfl, E⟩
    | true =>
    simp -implicitDefEqProofs (disch := omega) only [go_sem, hb, hb2, Bool.true_and]
    refine thenN_call ⟨_, _, slot_call U _ _ _ z p _ hb i2 hf.slots.1 l3, ?_⟩
    cases hx1 : has p.slots b with
    | false =>
      simp -implicitDefEqProofs (disch := omega) only [go_sem, hb, hb2, Bool.false_and]
      first | exact E | exact ⟨rfl, E⟩
    | true =>
    simp -implicitDefEqProofs (disch := omega) only [go_sem, hb, hb2, Bool.true_and]
    refine thenN_call ⟨_, _, slot_call U _ _ _ z p _ hb i3 hf.slots.1 l3, ?_⟩
    simp -implicitDefEqProofs (disch := omega) only [go_sem, hb, hb2, true_and]
    first | exact E | exact ⟨rfl, E⟩
  · rw [decide_eq_false q8, Bool.false_and, if_neg q8, if_neg q20]
    have hr : ∀ x y z : Nat, (if op < 20 then 2 else 0) ≠ 3 := by intro _ _ _; split <;> omega
    have hr1 : (if op < 20 then 2 else 0) < 9223372036854775808 := by split <;> omega
    generalize (if op < 20 then 2 else 0) = r at *
    have hr := hr 0 0 0
    simp -implicitDefEqProofs (disch := omega) only [go_sem, hb, hb2]
    first | exact E | exact ⟨rfl, E⟩
end Go.Proofs.Ytjljolnhmmbkoaa
