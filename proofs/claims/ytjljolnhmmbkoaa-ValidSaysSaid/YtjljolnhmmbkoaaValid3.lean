/- What is proved: what sets do, and what an instruction reads. Conditions: none. -/
import Derived.Test.YtjljolnhmmbkoaaValid2
set_option linter.unusedVariables false
set_option linter.unusedSimpArgs false
set_option linter.unusedSectionVars false
namespace Go.Proofs.Ytjljolnhmmbkoaa
open Go.Eng
set_option autoImplicit false
set_option maxRecDepth 100000
variable {nat : ∀ [Deep], Nats}
theorem shl1 {k : Nat} (h : k < 64) : shlN .u64 1 k = 2 ^ k := by
  have h2 : 2 ^ k < 18446744073709551616 := Nat.pow_lt_pow_right (by decide) h
  show (1 * 2 ^ k) % 18446744073709551616 = _
  rw [Nat.one_mul, Nat.mod_eq_of_lt h2]
theorem room_spec (h : ∀ [Deep], nat 84 = none) (η : HN) (n : Nat) (hn : n ≤ 1000000) :
    ∃ v η', CallN Try.prog nat 84 [.int .i64 n] η v η' ∧ v = .slice η.nx 0 ((n + 63) / 64) (.kn ((n + 63) / 64)) ∧ η' = η.new (.live false (List.replicate ((n + 63) / 64) (.int .u64 0))) := by
  refine call_of (PT := pl84) Try.func84 rfl h ok84 rfl ?_
  have hc : ¬ 8 = 0 ∧ (n + 63) / 64 * 8 ≤ 140737488355328 := ⟨by decide, by omega⟩
  simp -implicitDefEqProofs (disch := omega) only [go_sem, if_pos hc]
theorem add_spec (h : ∀ [Deep], nat 103 = none) (η : HN) (b off : Nat) (cap : Cp) (m : Nat) (row : List AV) (x n : Nat) (hb : η.f b = .live false row) (hn : n / 64 < m) (hr : row[off + n / 64]? = some (.int .u64 x)) (hm : m ≤ 1099511627776) :
    ∃ v η', CallN Try.prog nat 103 [.slice b off m cap, .int .i64 n] η v η' ∧ η' = η.put b (.live false (row.set (off + n / 64) (.int .u64 (x ||| 2 ^ (n % 64))))) := by
  refine call_of (PT := pl103) Try.func103 rfl h ok103 rfl ?_
  have hlt := (List.getElem?_eq_some_iff.1 hr).1
  simp -implicitDefEqProofs (disch := omega) only [go_sem, hb, hr]
  rw [shl1 (by omega)]
end Go.Proofs.Ytjljolnhmmbkoaa
