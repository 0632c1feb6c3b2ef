/- What is proved: ValidSays' walk. Conditions: none. -/
import Derived.Test.YtjljolnhmmbkoaaValid28
set_option linter.unusedVariables false
set_option linter.unusedSimpArgs false
set_option linter.unusedSectionVars false
namespace Go.Proofs.Ytjljolnhmmbkoaa
open Go.Eng Go.Plain
set_option autoImplicit false
set_option maxRecDepth 100000
variable {nat : ∀ [Deep], Nats}
/-- numbers are residues -/
structure Resd (p : PD) : Prop where
  ins : p.ins.length ≤ 9223372036854775807 ∧ ∀ n ∈ p.ins, n < 18446744073709551616
  outs : p.outs.length ≤ 9223372036854775807 ∧ ∀ n ∈ p.outs, n < 18446744073709551616
  slots : p.slots.length ≤ 9223372036854775807 ∧ ∀ n ∈ p.slots, n < 18446744073709551616
  mems : p.mems.length ≤ 9223372036854775807 ∧ ∀ n ∈ p.mems, n < 18446744073709551616
  consts : p.consts.length ≤ 9223372036854775807 ∧ ∀ n ∈ p.consts, n < 18446744073709551616
  code : p.code.length ≤ 9223372036854775807 ∧ ∀ i ∈ p.code, i.op < 18446744073709551616 ∧ i.a < 18446744073709551616 ∧ i.b < 18446744073709551616 ∧ i.c < 18446744073709551616
def greatF (p : PD) : Bool := decide (70 < p.ins.length ∨ 70 < p.outs.length ∨ 200 < p.slots.length ∨ 100 < p.mems.length ∨ 100 < p.consts.length ∨ 400 < p.code.length)
theorem Resd.fine {p : PD} (h : Resd p) (g : greatF p = false) : Fine p := by
  unfold greatF at g
  have g := of_decide_eq_false g
  exact ⟨⟨by omega, h.ins.2⟩, ⟨by omega, h.outs.2⟩, ⟨by omega, h.slots.2⟩, ⟨by omega, h.mems.2⟩, ⟨by omega, h.consts.2⟩, ⟨by omega, h.code.2⟩⟩
theorem rdI_len9 {k : IntKind} {η : HN} {y : AV} {l : List Nat} (h : RdI k η y l) (hl : l.length ≤ 9223372036854775807) : ∀ e y' η', lenN (.slice e 1 y') y η' = .ok (.int .i64 l.length) η' := fun e y' η' => by
  have := RdR.len (e := e) (y' := y') (η' := η') h (by simpa using hl)
  simpa using this
theorem rdC_len9 {η : HN} {y : AV} {l : List Ins} (h : RdC η y l) (hl : l.length ≤ 9223372036854775807) : ∀ e y' η', lenN (.slice e 4 y') y η' = .ok (.int .i64 l.length) η' := fun e y' η' => by
  have := RdR.len (e := e) (y' := y') (η' := η') h (by simpa using hl)
  simpa using this
set_option maxHeartbeats 1000000 in
theorem great_then (U : Usual nat) {η : HN} {z : PV} {p : PD} {Q : AV → HN → Prop} (hp : IsP η z p) (hr : Resd p) (h : ∀ η', ExtB η.nx η η' → Q (.bool (greatF p)) η') : ∃ v η', CallN Try.prog nat 18 [.agg z.cells] η v η' ∧ Q v η' := by
  refine call_of (PT := pl18) Try.func18 rfl (U 18 (by decide)) ok18 rfl ?_
  have l1 := rdI_len9 hp.ins hr.ins.1
  have l2 := rdI_len9 hp.outs hr.outs.1
  have l3 := rdI_len9 hp.slots hr.slots.1
  have l4 := rdI_len9 hp.mems hr.mems.1
  have l5 := rdI_len9 hp.consts hr.consts.1
  have l6 := rdC_len9 hp.code hr.code.1
  have b1 := hr.ins.1
  have b2 := hr.outs.1
  have b3 := hr.slots.1
  have b4 := hr.mems.1
  have b5 := hr.consts.1
  have b6 := hr.code.1
  have := h _ (extN (y := .live false z.cells) (.refl _ _))
  clear h
  unfold greatF at this
  by_cases s1 : 70 < p.ins.length
  · rw [decide_eq_true (by omega)] at this
    simp -implicitDefEqProofs (disch := omega) only [go_sem, l1, l2, l3, l4, l5, l6]
    exact this
  by_cases s2 : 70 < p.outs.length
  · rw [decide_eq_true (by omega)] at this
    simp -implicitDefEqProofs (disch := omega) only [go_sem, l1, l2, l3, l4, l5, l6]
    exact this
  by_cases s3 : 200 < p.slots.length
  · rw [decide_eq_true (by omega)] at this
    simp -implicitDefEqProofs (disch := omega) only [go_sem, l1, l2, l3, l4, l5, l6]
    exact this
  by_cases s4 : 100 < p.mems.length
  · rw [decide_eq_true (by omega)] at this
    simp -implicitDefEqProofs (disch := omega) only [go_sem, l1, l2, l3, l4, l5, l6]
    exact this
  by_cases s5 : 100 < p.consts.length
  · rw [decide_eq_true (by omega)] at this
    simp -implicitDefEqProofs (disch := omega) only [go_sem, l1, l2, l3, l4, l5, l6]
    exact this
  by_cases s6 : 400 < p.code.length
  · rw [decide_eq_true (by omega)] at this
    simp -implicitDefEqProofs (disch := omega) only [go_sem, l1, l2, l3, l4, l5, l6]
    exact this
  rw [decide_eq_false (by omega)] at this
  simp -implicitDefEqProofs (disch := omega) only [go_sem, l1, l2, l3, l4, l5, l6]
  exact this
theorem refcheck_then (U : Usual nat) {η : HN} (z : PV) (p : PD) {Q : AV → HN → Prop} (hp : IsP η z p) (hf : Fine p) (h : ∀ η', ExtB η.nx η η' → Q (.tup [.int .i64 (checkF p).1, .int .i64 (checkF p).2]) η') : ∃ v η', CallN Try.prog nat 19 [.agg z.cells] η v η' ∧ Q v η' := by
  obtain ⟨v, η', k, rfl, E⟩ := refcheck_spec U η z p hp hf
  exact ⟨_, η', k, h η' E⟩
set_option maxHeartbeats 1000000 in
theorem says_spec (U : Usual nat) (h16 : ∀ [Deep], nat 16 = some trueNat) (η : HN) (z : PV) (p : PD) (hp : IsP η z p) (hr : Resd p) : ∃ v η', CallN Try.prog nat 4 [.agg z.cells] η v η' ∧ v = .bool true := by
  refine call_of (PT := pl4) Try.func4 rfl (U 4 (by decide)) ok4 rfl ?_
  simp -implicitDefEqProofs (disch := omega) only [go_sem]
  refine thenN_call ⟨_, _, callN_true h16, ?_⟩
  have E1 : ExtB η.nx η (η.new (.live false z.cells)) := extN (.refl _ _)
  have x1 : (η.new (.live false z.cells)).f η.nx = .live false z.cells := by show (if η.nx = η.nx then _ else _) = _; rw [if_pos rfl]
  have n1 : (η.new (.live false z.cells)).nx = η.nx + 1 := rfl
  simp -implicitDefEqProofs (disch := omega) only [go_sem, Bool.not_true]
  refine thenN_call (great_then U (hp.ext E1) hr fun η2 E2 => ?_)
  cases hg : greatF p with
  | true => simp -implicitDefEqProofs (disch := omega) only [go_sem]
  | false =>
  have hf := hr.fine hg
  have x2 := (E2.2 _ (by omega)).trans x1
  have F2 := extT E1 E2
  have g2 := E2.1
  simp -implicitDefEqProofs (disch := omega) only [go_sem, x2]
  refine thenN_call (check_then U z p (hp.ext F2) hf fun η3 E3 => ?_)
  have x3 := (E3.2 _ (by omega)).trans x2
  have F3 := extT F2 E3
  have g3 := E3.1
  simp -implicitDefEqProofs (disch := omega) only [go_sem, x3]
  have E4 : ExtB η3.nx η3 ((η3.new (.live false [.int .i64 0, .int .i64 0])).put η3.nx (.live false [.int .i64 (checkF p).1, .int .i64 (checkF p).2])) := extP (extN (.refl _ _))
  have x4 : ((η3.new (.live false [.int .i64 0, .int .i64 0])).put η3.nx (.live false [.int .i64 (checkF p).1, .int .i64 (checkF p).2])).f η3.nx = .live false [.int .i64 (checkF p).1, .int .i64 (checkF p).2] := by show (if η3.nx = η3.nx then _ else _) = _; rw [if_pos rfl]
  refine thenN_call (refcheck_then U z p (hp.ext (extT F3 E4)) hf fun η5 E5 => ?_)
  have x5 := (E5.2 η3.nx (by show _ < η3.nx + 1; omega)).trans x4
  by_cases h0 : (checkF p).2 = 0
  · rw [decide_eq_true h0]
    simp -implicitDefEqProofs (disch := omega) only [go_sem, x5, eq26_t]
  · rw [decide_eq_false h0]
    simp -implicitDefEqProofs (disch := omega) only [go_sem, x5, eq26_t]
end Go.Proofs.Ytjljolnhmmbkoaa
