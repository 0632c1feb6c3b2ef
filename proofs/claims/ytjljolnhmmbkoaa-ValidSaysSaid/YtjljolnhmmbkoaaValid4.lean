/- What is proved: what an instruction reads. Conditions: none. -/
import Derived.Test.YtjljolnhmmbkoaaValid3
set_option linter.unusedVariables false
set_option linter.unusedSimpArgs false
set_option linter.unusedSectionVars false
namespace Go.Proofs.Ytjljolnhmmbkoaa
open Go.Eng
set_option autoImplicit false
set_option maxRecDepth 100000
variable {nat : ∀ [Deep], Nats}
/-- the slots that an instruction reads -/
def readsL (op b c : Nat) : List Nat := if op = 0 ∨ op = 2 ∨ op = 4 ∨ op = 20 then [] else if 8 ≤ op ∧ op ≤ 18 then [b, c] else [b]
theorem reads_spec (h : ∀ [Deep], nat 85 = none) (h79 : ∀ [Deep], nat 79 = none) (η : HN) (op a b c : Nat) (hop : op ≤ 20) :
    ∃ v η', CallN Try.prog nat 85 [.agg [.int .i64 op, .int .i64 a, .int .i64 b, .int .i64 c]] η v η' ∧ RdI .i64 η' v (readsL op b c) ∧ ExtB η.nx η η' := by
  refine call_of (PT := pl85) Try.func85 rfl h ok85 rfl ?_
  have E1 : ExtB η.nx η (η.new (.live false [.int .i64 op, .int .i64 a, .int .i64 b, .int .i64 c])) := .new (Nat.le_refl _)
  by_cases h0 : op = 0
  · subst h0
    simp -implicitDefEqProofs (disch := omega) only [go_sem]
    exact ⟨.inl ⟨rfl, .inl rfl⟩, E1⟩
  by_cases h2 : op = 2
  · subst h2
    simp -implicitDefEqProofs (disch := omega) only [go_sem]
    exact ⟨.inl ⟨rfl, .inl rfl⟩, E1⟩
  by_cases h4 : op = 4
  · subst h4
    simp -implicitDefEqProofs (disch := omega) only [go_sem]
    exact ⟨.inl ⟨rfl, .inl rfl⟩, E1⟩
  by_cases h20 : op = 20
  · subst h20
    simp -implicitDefEqProofs (disch := omega) only [go_sem]
    exact ⟨.inl ⟨rfl, .inl rfl⟩, E1⟩
  unfold readsL
  rw [if_neg (by omega)]
  simp -implicitDefEqProofs (disch := omega) only [go_sem]
  obtain ⟨v, η', k, rfl, rfl⟩ := operands_spec h79 (η.new (.live false [.int .i64 op, .int .i64 a, .int .i64 b, .int .i64 c])) op (by omega)
  rw [if_pos (by omega)] at k
  refine thenN_call ⟨_, _, k, ?_⟩
  by_cases h8 : 8 ≤ op ∧ op ≤ 18
  · rw [if_pos h8, if_pos h8]
    simp -implicitDefEqProofs (disch := omega) only [go_sem]
    exact ⟨.inr ⟨η.nx + 1, 0, .kn 2, false, _, rfl, by show (if η.nx + 1 = η.nx + 1 then _ else _) = _; rw [if_pos rfl], Nat.lt_succ_self _, by simp, by simp, rfl⟩, E1.trans (.new (Nat.le_succ _))⟩
  · rw [if_neg h8, if_neg h8]
    simp -implicitDefEqProofs (disch := omega) only [go_sem]
    exact ⟨.inr ⟨η.nx + 1, 0, .kn 1, false, _, rfl, by show (if η.nx + 1 = η.nx + 1 then _ else _) = _; rw [if_pos rfl], Nat.lt_succ_self _, by simp, by simp, rfl⟩, E1.trans (.new (Nat.le_succ _))⟩
end Go.Proofs.Ytjljolnhmmbkoaa
