/- What is proved: what an instruction writes. Conditions: none. -/
import Derived.Test.YtjljolnhmmbkoaaValid4
set_option linter.unusedVariables false
set_option linter.unusedSimpArgs false
set_option linter.unusedSectionVars false
namespace Go.Proofs.Ytjljolnhmmbkoaa
open Go.Eng
set_option autoImplicit false
set_option maxRecDepth 100000
variable {nat : ∀ [Deep], Nats}
/-- a program's kinds and rooms, held by a pointer -/
theorem does_no_spec (h : ∀ [Deep], nat 87 = none) (h103 : ∀ [Deep], nat 103 = none) (η : HN) (p op a b c : Nat) (came : Bool) (z1 z2 : AV) (hp : η.f p = .live false [.bool came, z1, z2]) (hop : op = 3 ∨ op = 19 ∨ op = 20) (hn : p < η.nx) :
    ∃ v η', CallN Try.prog nat 87 [.ptr p 0, .agg [.int .i64 op, .int .i64 a, .int .i64 b, .int .i64 c]] η v η' ∧ ExtB η.nx η η' := by
  refine call_of (PT := pl87) Try.func87 rfl h ok87 rfl ?_
  have E1 : ExtB η.nx η (η.new (.live false [.int .i64 op, .int .i64 a, .int .i64 b, .int .i64 c])) := .new (Nat.le_refl _)
  rcases hop with rfl | rfl | rfl
  · simp -implicitDefEqProofs (disch := omega) only [go_sem]
    exact E1
  · simp -implicitDefEqProofs (disch := omega) only [go_sem]
    exact E1
  · simp -implicitDefEqProofs (disch := omega) only [go_sem]
    exact E1
theorem does_out_spec (h : ∀ [Deep], nat 87 = none) (h103 : ∀ [Deep], nat 103 = none) (η : HN) (p a b c q off m x : Nat) (cap : Cp) (row : List AV) (came : Bool) (z1 : AV) (hp : η.f p = .live false [.bool came, z1, .slice q off m cap]) (hn : p < η.nx) (hq : q < η.nx)
    (hb : η.f q = .live false row) (ha : a / 64 < m) (hr : row[off + a / 64]? = some (.int .u64 x)) (hm : m ≤ 1099511627776) :
    ∃ v η', CallN Try.prog nat 87 [.ptr p 0, .agg [.int .i64 5, .int .i64 a, .int .i64 b, .int .i64 c]] η v η' ∧ η' = (η.new (.live false [.int .i64 5, .int .i64 a, .int .i64 b, .int .i64 c])).put q (.live false (row.set (off + a / 64) (.int .u64 (x ||| 2 ^ (a % 64))))) := by
  refine call_of (PT := pl87) Try.func87 rfl h ok87 rfl ?_
  simp -implicitDefEqProofs (disch := omega) only [go_sem, hp]
  obtain ⟨v, η', k, rfl⟩ := add_spec h103 (η.new (.live false [.int .i64 5, .int .i64 a, .int .i64 b, .int .i64 c])) q off cap m row x a (by show (if q = η.nx then _ else _) = _; rw [if_neg (by omega)]; exact hb) ha hr hm
  refine dE_call ⟨_, _, k, ?_⟩
  simp -implicitDefEqProofs (disch := omega) only [go_sem, hp]
theorem does_slot_spec (h : ∀ [Deep], nat 87 = none) (h103 : ∀ [Deep], nat 103 = none) (η : HN) (p op a b c q off m x : Nat) (cap : Cp) (row : List AV) (came : Bool) (z2 : AV) (hp : η.f p = .live false [.bool came, .slice q off m cap, z2]) (hn : p < η.nx) (hq : q < η.nx)
    (hop : op ≤ 18) (h3 : op ≠ 3) (h5 : op ≠ 5) (hb : η.f q = .live false row) (ha : a / 64 < m) (hr : row[off + a / 64]? = some (.int .u64 x)) (hm : m ≤ 1099511627776) :
    ∃ v η', CallN Try.prog nat 87 [.ptr p 0, .agg [.int .i64 op, .int .i64 a, .int .i64 b, .int .i64 c]] η v η' ∧ η' = (η.new (.live false [.int .i64 op, .int .i64 a, .int .i64 b, .int .i64 c])).put q (.live false (row.set (off + a / 64) (.int .u64 (x ||| 2 ^ (a % 64))))) := by
  refine call_of (PT := pl87) Try.func87 rfl h ok87 rfl ?_
  simp -implicitDefEqProofs (disch := omega) only [go_sem, hp]
  obtain ⟨v, η', k, rfl⟩ := add_spec h103 (η.new (.live false [.int .i64 op, .int .i64 a, .int .i64 b, .int .i64 c])) q off cap m row x a (by show (if q = η.nx then _ else _) = _; rw [if_neg (by omega)]; exact hb) ha hr hm
  refine dE_call ⟨_, _, k, ?_⟩
  simp -implicitDefEqProofs (disch := omega) only [go_sem, hp]
end Go.Proofs.Ytjljolnhmmbkoaa
