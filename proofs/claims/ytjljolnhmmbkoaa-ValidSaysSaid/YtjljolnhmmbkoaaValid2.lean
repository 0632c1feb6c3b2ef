/- What is proved: what sets and targets do. Conditions: none. -/
import Derived.Test.YtjljolnhmmbkoaaValid1
set_option linter.unusedVariables false
set_option linter.unusedSimpArgs false
set_option linter.unusedSectionVars false
namespace Go.Proofs.Ytjljolnhmmbkoaa
open Go.Eng
set_option autoImplicit false
set_option maxRecDepth 100000
variable {nat : ∀ [Deep], Nats}
theorem ltN_negr {a n : Nat} (ha : a ≤ 9223372036854775807) (h : 9223372036854775807 < n) : ltN .i64 a n = false := by
  have h1 : nneg .i64 n = false := by
    cases hq : nneg .i64 n with
    | false => rfl
    | true => exact absurd (ble_true.1 hq) (by show ¬ Nat.succ n ≤ 9223372036854775808; omega)
  have h2 : nneg .i64 a = true := ble_true.2 (show Nat.succ a ≤ 9223372036854775808 by omega)
  unfold ltN
  rw [h1, h2]; rfl
theorem shr_u64 {x k : Nat} (h : x < 18446744073709551616) : shrN .u64 x k = x / 2 ^ k := by
  have h1 : nneg .u64 x = true := ble_true.2 (show Nat.succ x ≤ 18446744073709551616 from h)
  unfold shrN
  rw [h1]; rfl
theorem target_spec (h : ∀ [Deep], nat 78 = none) (η : HN) (c : Nat) (ro : Bool) (z1 z2 z3 z4 z5 z6 : AV) (pc to m : Nat) (hc : η.f c = .live ro [z1, z2, z3, z4, z5, z6]) (hpc : pc ≤ 9223372036854775807) (hto : to < 18446744073709551616) (hm : m ≤ 9223372036854775807) (hy : ∀ e y' η', lenN (.slice e 4 y') z6 η' = .ok (.int .i64 m) η') :
    ∃ v η', CallN Try.prog nat 78 [.ptr c 0, .int .i64 pc, .int .i64 to] η v η' ∧ v = .bool (decide (pc < to ∧ to ≤ m)) ∧ η' = η := by
  refine call_of (PT := pl78) Try.func78 rfl h ok78 rfl ?_
  by_cases h0 : 9223372036854775807 < to
  · have hlt := ltN_negr hpc h0
    rw [decide_eq_false (by omega)]
    simp -implicitDefEqProofs (disch := omega) only [go_sem, hc, hy, hlt]
  by_cases h1 : pc < to
  · by_cases h2 : to ≤ m
    · rw [decide_eq_true ⟨h1, h2⟩]
      simp -implicitDefEqProofs (disch := omega) only [go_sem, hc, hy]
    · rw [decide_eq_false (by omega)]
      simp -implicitDefEqProofs (disch := omega) only [go_sem, hc, hy]
  · rw [decide_eq_false (by omega)]
    simp -implicitDefEqProofs (disch := omega) only [go_sem, hc, hy]
theorem has_spec (h : ∀ [Deep], nat 45 = none) (η : HN) (y : AV) (l : List Nat) (n : Nat) (hy : RdI .u64 η y l) (hn : n / 64 < l.length) (hl : l.length ≤ 1099511627776) (hx : ∀ x ∈ l, x < 18446744073709551616) :
    ∃ v η', CallN Try.prog nat 45 [y, .int .i64 n] η v η' ∧ v = .bool (decide (l.getD (n / 64) 0 / 2 ^ (n % 64) % 2 = 1)) ∧ η' = η := by
  refine call_of (PT := pl45) Try.func45 rfl h ok45 rfl ?_
  obtain ⟨b, off, cap, ro, row, rfl, hb, _, hr⟩ := hy.at hn
  simp -implicitDefEqProofs (disch := omega) only [go_sem, hb, hr]
  rw [shr_u64 (hx _ (List.getElem_mem hn)), Nat.and_one_is_mod, List.getD_eq_getElem?_getD, List.getElem?_eq_getElem hn]; rfl
end Go.Proofs.Ytjljolnhmmbkoaa
