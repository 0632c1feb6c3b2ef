/- What is proved: what the leaves of valid.Check do. Conditions: none. -/
import Derived.Test.YtjljolnhmmbkoaaFacts
set_option linter.unusedVariables false
set_option linter.unusedSimpArgs false
set_option linter.unusedSectionVars false
namespace Go.Proofs.Ytjljolnhmmbkoaa
open Go.Eng
set_option autoImplicit false
set_option maxRecDepth 100000
variable {nat : ∀ [Deep], Nats}
theorem ltN_neg {n : Nat} (h : 9223372036854775807 < n) : ltN .i64 n 0 = true := by
  have h1 : nneg .i64 n = false := by
    cases hq : nneg .i64 n with
    | false => rfl
    | true => exact absurd (ble_true.1 hq) (by show ¬ Nat.succ n ≤ 9223372036854775808; omega)
  have h2 : nneg .i64 0 = true := rfl
  unfold ltN
  rw [h1, h2]; rfl
theorem operands_spec (h : ∀ [Deep], nat 79 = none) (η : HN) (op : Nat) (hop : op < 18446744073709551616) :
    ∃ v η', CallN Try.prog nat 79 [.int .i64 op] η v η' ∧ v = .int .i64 (if op < 20 then (if 8 ≤ op ∧ op ≤ 18 then 3 else 2) else if op = 20 then 1 else 0) ∧ η' = η := by
  refine call_of (PT := pl79) Try.func79 rfl h ok79 rfl ?_
  by_cases h0 : 9223372036854775807 < op
  · have hlt := ltN_neg h0
    rw [if_neg (by omega), if_neg (by omega)]
    simp -implicitDefEqProofs (disch := omega) only [go_sem, hlt]
  by_cases h1 : 20 < op
  · rw [if_neg (by omega), if_neg (by omega)]
    simp -implicitDefEqProofs (disch := omega) only [go_sem]
  by_cases h2 : op = 20
  · subst h2
    simp -implicitDefEqProofs (disch := omega) only [go_sem]
  rw [if_pos (by omega)]
  by_cases h3 : op < 8
  · rw [if_neg (by omega)]
    simp -implicitDefEqProofs (disch := omega) only [go_sem]
  by_cases h4 : 18 < op
  · rw [if_neg (by omega)]
    simp -implicitDefEqProofs (disch := omega) only [go_sem]
  rw [if_pos (by omega)]
  simp -implicitDefEqProofs (disch := omega) only [go_sem]
theorem odd_spec (h : ∀ [Deep], nat 74 = none) (η : HN) (k : Nat) :
    ∃ v η', CallN Try.prog nat 74 [.int .i64 k] η v η' ∧ v = .bool (decide (k ≠ 1 ∧ k ≠ 2)) ∧ η' = η := by
  refine call_of (PT := pl74) Try.func74 rfl h ok74 rfl ?_
  by_cases h1 : k = 1
  · subst h1
    simp -implicitDefEqProofs (disch := omega) only [go_sem]
  by_cases h2 : k = 2
  · subst h2
    simp -implicitDefEqProofs (disch := omega) only [go_sem]
  rw [decide_eq_true ⟨h1, h2⟩]
  simp -implicitDefEqProofs (disch := omega) only [go_sem]
/-- is there such a one? -/
def within (n m : Nat) : Bool := decide (n < m)
theorem within_spec (h : ∀ [Deep], nat 76 = none) (η : HN) (y : AV) (n m : Nat) (hn : n < 18446744073709551616) (hm : m ≤ 9223372036854775807) (hy : ∀ e y' η', lenN (.slice e 1 y') y η' = .ok (.int .i64 m) η') :
    ∃ v η', CallN Try.prog nat 76 [y, .int .i64 n] η v η' ∧ v = .bool (within n m) ∧ η' = η := by
  refine call_of (PT := pl76) Try.func76 rfl h ok76 rfl ?_
  unfold within
  by_cases h0 : 9223372036854775807 < n
  · have hlt := ltN_neg h0
    rw [decide_eq_false (by omega)]
    simp -implicitDefEqProofs (disch := omega) only [go_sem, hlt, hy]
  by_cases h1 : n < m
  · rw [decide_eq_true h1]
    simp -implicitDefEqProofs (disch := omega) only [go_sem, hy]
  · rw [decide_eq_false h1]
    simp -implicitDefEqProofs (disch := omega) only [go_sem, hy]
theorem within2_spec (h : ∀ [Deep], nat 77 = none) (η : HN) (y : AV) (n m : Nat) (hn : n < 18446744073709551616) (hm : m ≤ 9223372036854775807) (hy : ∀ e y' η', lenN (.slice e 1 y') y η' = .ok (.int .i64 m) η') :
    ∃ v η', CallN Try.prog nat 77 [y, .int .i64 n] η v η' ∧ v = .bool (within n m) ∧ η' = η := by
  refine call_of (PT := pl77) Try.func77 rfl h ok77 rfl ?_
  unfold within
  by_cases h0 : 9223372036854775807 < n
  · have hlt := ltN_neg h0
    rw [decide_eq_false (by omega)]
    simp -implicitDefEqProofs (disch := omega) only [go_sem, hlt, hy]
  by_cases h1 : n < m
  · rw [decide_eq_true h1]
    simp -implicitDefEqProofs (disch := omega) only [go_sem, hy]
  · rw [decide_eq_false h1]
    simp -implicitDefEqProofs (disch := omega) only [go_sem, hy]
end Go.Proofs.Ytjljolnhmmbkoaa
