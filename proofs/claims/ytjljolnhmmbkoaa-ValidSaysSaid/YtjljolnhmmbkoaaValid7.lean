/- What is proved: what a program's parts are asked. Conditions: none. -/
import Derived.Test.YtjljolnhmmbkoaaValid6
set_option linter.unusedVariables false
set_option linter.unusedSimpArgs false
set_option linter.unusedSectionVars false
namespace Go.Proofs.Ytjljolnhmmbkoaa
open Go.Eng Go.Plain
set_option autoImplicit false
set_option maxRecDepth 100000
variable {nat : ∀ [Deep], Nats}
/-- a program's six values -/
structure PV where
  z1 : AV
  z2 : AV
  z3 : AV
  z4 : AV
  z5 : AV
  z6 : AV
abbrev PV.cells (z : PV) : List AV := [z.z1, z.z2, z.z3, z.z4, z.z5, z.z6]
def RdC (η : HN) (y : AV) (l : List Ins) : Prop := RdR 4 η y (l.map Ins.cells)
/-- they read as the lists do -/
structure IsP (η : HN) (z : PV) (p : PD) : Prop where
  ins : RdI .i64 η z.z1 p.ins
  outs : RdI .i64 η z.z2 p.outs
  slots : RdI .i64 η z.z3 p.slots
  mems : RdI .i64 η z.z4 p.mems
  consts : RdI .i64 η z.z5 p.consts
  code : RdC η z.z6 p.code
/-- numbers are residues, lists are not too long -/
structure Fine (p : PD) : Prop where
  ins : p.ins.length ≤ 1099511627776 ∧ ∀ n ∈ p.ins, n < 18446744073709551616
  outs : p.outs.length ≤ 1099511627776 ∧ ∀ n ∈ p.outs, n < 18446744073709551616
  slots : p.slots.length ≤ 1099511627776 ∧ ∀ n ∈ p.slots, n < 18446744073709551616
  mems : p.mems.length ≤ 1099511627776 ∧ ∀ n ∈ p.mems, n < 18446744073709551616
  consts : p.consts.length ≤ 1099511627776 ∧ ∀ n ∈ p.consts, n < 18446744073709551616
  code : p.code.length ≤ 1099511627776 ∧ ∀ i ∈ p.code, i.op < 18446744073709551616 ∧ i.a < 18446744073709551616 ∧ i.b < 18446744073709551616 ∧ i.c < 18446744073709551616
theorem rdI_ext {k : IntKind} {η η' : HN} {y : AV} {l : List Nat} (h : RdI k η y l) (e : ExtB η.nx η η') : RdI k η' y l := RdR.ext (base := η.nx) h e
theorem IsP.ext {η η' : HN} {z : PV} {p : PD} (h : IsP η z p) (e : ExtB η.nx η η') : IsP η' z p :=
  ⟨rdI_ext h.ins e, rdI_ext h.outs e, rdI_ext h.slots e, rdI_ext h.mems e, rdI_ext h.consts e, RdR.ext (base := η.nx) h.code e⟩
theorem rdI_len {k : IntKind} {η : HN} {y : AV} {l : List Nat} (h : RdI k η y l) (hl : l.length ≤ 1099511627776) : ∀ e y' η', lenN (.slice e 1 y') y η' = .ok (.int .i64 l.length) η' := fun e y' η' => by
  have := RdR.len (e := e) (y' := y') (η' := η') h (by simp; omega)
  simpa using this
theorem rdC_len {η : HN} {y : AV} {l : List Ins} (h : RdC η y l) (hl : l.length ≤ 1099511627776) : ∀ e y' η', lenN (.slice e 4 y') y η' = .ok (.int .i64 l.length) η' := fun e y' η' => by
  have := RdR.len (e := e) (y' := y') (η' := η') h (by simp; omega)
  simpa using this
theorem odd_all (l : List Nat) : l.any (fun k => decide (k ≠ 1 ∧ k ≠ 2)) = !l.all kdOk := by
  induction l with
  | nil => rfl
  | cons k l ih =>
    rw [List.any_cons, List.all_cons, ih]
    unfold kdOk
    by_cases h1 : k = 1
    · subst h1; simp
    · by_cases h2 : k = 2
      · subst h2; simp
      · simp [h1, h2]
theorem odds_call (U : Usual nat) (η : HN) (y : AV) (l : List Nat) (hy : RdI .i64 η y l) (hl : l.length ≤ 1099511627776) : CallN Try.prog nat 73 [y, .func 74 [] []] η (.bool (!l.all kdOk)) η := by
  obtain ⟨v, η', k, rfl, rfl⟩ := contains_spec U η y l (fun k => decide (k ≠ 1 ∧ k ≠ 2)) 74 [] hy hl fun n _ => by
    obtain ⟨v, η', k, rfl, rfl⟩ := odd_spec (U 74 (by decide)) η n
    exact k
  rw [odd_all] at k
  exact k
theorem parts_spec (U : Usual nat) (η : HN) (c : Nat) (ro : Bool) (z : PV) (p : PD) (hc : η.f c = .live ro z.cells) (hcn : c < η.nx) (hp : IsP η z p) (hf : Fine p) :
    ∃ v η', CallN Try.prog nat 41 [.ptr c 0] η v η' ∧ v = .bool (partsF p) ∧ ExtB η.nx η η' := by
  refine call_of (PT := pl41) Try.func41 rfl (U 41 (by decide)) ok41 rfl ?_
  have l1 := rdI_len hp.ins hf.ins.1
  have l2 := rdI_len hp.outs hf.outs.1
  have l3 := rdI_len hp.slots hf.slots.1
  have l4 := rdI_len hp.mems hf.mems.1
  have l5 := rdI_len hp.consts hf.consts.1
  have l6 := rdC_len hp.code hf.code.1
  have h1 := hf.ins.1
  have h2 := hf.outs.1
  have h3 := hf.slots.1
  have h4 := hf.mems.1
  have h5 := hf.consts.1
  have h6 := hf.code.1
  simp -implicitDefEqProofs (disch := omega) only [go_sem, hc, l1, l2, l3, l4, l5, l6]
  refine loop_n 4 ?_
  unfold partsF
  by_cases s1 : 1024 < p.slots.length
  · rw [decide_eq_false (show ¬ p.slots.length ≤ 1024 by omega)]
    simp -implicitDefEqProofs (disch := omega) only [go_sem]
    exact extN (extP (extN (.refl _ _)))
  by_cases s2 : 1024 < p.mems.length
  · rw [decide_eq_false (show ¬ p.mems.length ≤ 1024 by omega), Bool.false_and, Bool.and_false]
    simp -implicitDefEqProofs (disch := omega) only [go_sem]
    exact extN (extP (extN (.refl _ _)))
  by_cases s3 : 1024 < p.consts.length
  · rw [decide_eq_false (show ¬ p.consts.length ≤ 1024 by omega), Bool.false_and, Bool.and_false, Bool.and_false]
    simp -implicitDefEqProofs (disch := omega) only [go_sem]
    exact extN (extP (extN (.refl _ _)))
  rw [decide_eq_true (show p.slots.length ≤ 1024 by omega), decide_eq_true (show p.mems.length ≤ 1024 by omega), decide_eq_true (show p.consts.length ≤ 1024 by omega), Bool.true_and, Bool.true_and, Bool.true_and]
  have c1 := RdR.cells hp.ins
  have c2 := RdR.cells hp.outs
  have c3 := RdR.cells hp.slots
  have c4 := RdR.cells hp.mems
  simp -implicitDefEqProofs (disch := omega) only [go_sem, c1, c2, c3, c4]
  refine loop_n 5 ?_
  simp -implicitDefEqProofs (disch := omega) only [go_sem]
  have E4 : ExtB η.nx η ((((η.new (.live false [.nilslice, .nilslice, .nilslice, .nilslice, .nilslice, .nilslice])).put η.nx (.live false z.cells)).new (.live false [.int .i64 p.slots.length, .int .i64 p.mems.length, .int .i64 p.consts.length])).new (.live false [z.z1, z.z2, z.z3, z.z4])) := extN (extN (extP (extN (.refl _ _))))
  refine thenN_call ⟨_, _, odds_call U _ _ _ (rdI_ext hp.ins E4) hf.ins.1, ?_⟩
  cases o1 : p.ins.all kdOk with
  | false =>
    simp -implicitDefEqProofs (disch := omega) only [go_sem, Bool.not_false, Bool.false_and]
    exact E4
  | true =>
  simp -implicitDefEqProofs (disch := omega) only [go_sem, Bool.not_true, Bool.true_and]
  refine thenN_call ⟨_, _, odds_call U _ _ _ (rdI_ext hp.outs E4) hf.outs.1, ?_⟩
  cases o2 : p.outs.all kdOk with
  | false =>
    simp -implicitDefEqProofs (disch := omega) only [go_sem, Bool.not_false, Bool.false_and]
    exact E4
  | true =>
  simp -implicitDefEqProofs (disch := omega) only [go_sem, Bool.not_true, Bool.true_and]
  refine thenN_call ⟨_, _, odds_call U _ _ _ (rdI_ext hp.slots E4) hf.slots.1, ?_⟩
  cases o3 : p.slots.all kdOk with
  | false =>
    simp -implicitDefEqProofs (disch := omega) only [go_sem, Bool.not_false, Bool.false_and]
    exact E4
  | true =>
  simp -implicitDefEqProofs (disch := omega) only [go_sem, Bool.not_true, Bool.true_and]
  refine thenN_call ⟨_, _, odds_call U _ _ _ (rdI_ext hp.mems E4) hf.mems.1, ?_⟩
  cases o4 : p.mems.all kdOk with
  | false =>
    simp -implicitDefEqProofs (disch := omega) only [go_sem, Bool.not_false, Bool.false_and]
    exact E4
  | true =>
  simp -implicitDefEqProofs (disch := omega) only [go_sem, Bool.not_true, Bool.true_and, l1, l2, l6]
  by_cases s4 : 64 < p.ins.length
  · rw [decide_eq_false (show ¬ p.ins.length ≤ 64 by omega), Bool.false_and]
    simp -implicitDefEqProofs (disch := omega) only [go_sem, l1, l2, l6]
    exact E4
  by_cases s5 : 64 < p.outs.length
  · rw [decide_eq_true (show p.ins.length ≤ 64 by omega), Bool.true_and, decide_eq_false (show ¬ p.outs.length ≤ 64 by omega), Bool.false_and]
    simp -implicitDefEqProofs (disch := omega) only [go_sem, l1, l2, l6]
    exact E4
  rw [decide_eq_true (show p.ins.length ≤ 64 by omega), decide_eq_true (show p.outs.length ≤ 64 by omega), Bool.true_and, Bool.true_and]
  by_cases s6 : 8192 < p.code.length
  · rw [decide_eq_false (show ¬ p.code.length ≤ 8192 by omega)]
    simp -implicitDefEqProofs (disch := omega) only [go_sem, l1, l2, l6]
    exact E4
  rw [decide_eq_true (show p.code.length ≤ 8192 by omega)]
  simp -implicitDefEqProofs (disch := omega) only [go_sem, l1, l2, l6]
  exact E4
end Go.Proofs.Ytjljolnhmmbkoaa
