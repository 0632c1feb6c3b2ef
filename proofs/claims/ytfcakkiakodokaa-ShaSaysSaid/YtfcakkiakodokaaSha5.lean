/- What is proved: what Of does. Conditions: the mixing of one block is told. -/
import Derived.Test.YtfcakkiakodokaaSha4
set_option linter.unusedVariables false
set_option linter.unusedSimpArgs false
set_option linter.unusedSectionVars false
namespace Go.Proofs.Ytfcakkiakodokaa
open Go.Eng
set_option autoImplicit false
set_option maxRecDepth 100000
variable {nat : ∀ [Deep], Nats} {F : List Nat → List Nat → List Nat}
/-- the digest of bytes -/
noncomputable def shaF (F : List Nat → List Nat → List Nat) (l : List Nat) : List Nat := sumF F (blkF F H0 l) (restF l) l.length
/-- a digest in the making, of the bytes -/
def Made (F : List Nat → List Nat → List Nat) (η : HN) (p : Nat) (bad : List Nat) (l : List Nat) : Prop := HashAt η p bad (blkF F H0 l) (restF l) l.length
theorem Made.zero {η : HN} {p : Nat} {bad : List Nat} (h : HashAt η p bad H0 [] 0) : Made F η p bad [] := by
  unfold Made
  rw [blkF, restF]
  exact h
theorem made_add (X : Ctx nat F) {η : HN} {p : Nat} {bad : List Nat} {L l : List Nat} {z : AV} (hp : p ∈ bad) (hb : ∀ c ∈ bad, c < η.nx) (x : Made F η p bad L) (hz : RdBk η [p] z l) (hm : l.length ≤ 549755813888) (hn : L.length ≤ 549755813888) :
    ∃ v η', CallN Try.prog nat 14 [.ptr p 0, z] η v η' ∧ Made F η' p bad (L ++ l) ∧ η.nx ≤ η'.nx ∧ (∀ c, c < η.nx → c ≠ p → η'.f c = η.f c) := by
  obtain ⟨v, η', h1, h2, h3⟩ := add_spec X η p bad _ _ l _ _ z hp hb x hz rfl (restF_lt L) hm hn
  refine ⟨v, η', h1, ?_, h3⟩
  obtain ⟨a1, a2⟩ := app_F F L l
  unfold Made
  rw [a1, a2, List.length_append]
  exact h2
theorem made_sum (X : Ctx nat F) {η : HN} {p : Nat} {bad : List Nat} {L : List Nat} (x : Made F η p bad L) (hn : L.length ≤ 1099511627776) :
    ∃ v η', CallN Try.prog nat 15 [.ptr p 0] η v η' ∧ v = .agg (u8s (shaF F L)) ∧ ExtB η.nx η η' := sum_spec X η p bad _ _ _ x (restF_lt L) hn
theorem sumF_len (h left : List Nat) (n : Nat) : (sumF F h left n).length = 32 := by simp [sumF, outF]
theorem of_spec (X : Ctx nat F) (η : HN) (z : AV) (l : List Nat) (hz : RdBk η [] z l) (hm : l.length ≤ 549755813888) : ∃ v η', CallN Try.prog nat 10 [z] η v η' ∧ v = .agg (u8s (shaF F l)) ∧ ExtB η.nx η η' := by
  refine call_of (PT := pl10) Try.func10 rfl (X.none 10 (by simp)) ok10 rfl ?_
  have hd0 : (η.new (.live false (List.replicate 32 (.int .u8 0)))).f η.nx = .live false (List.replicate 32 (.int .u8 0)) := by show (if η.nx = η.nx then _ else _) = _; rw [if_pos rfl]
  have E0 : ExtB η.nx η (η.new (.live false (List.replicate 32 (.int .u8 0)))) := .new (Nat.le_refl _)
  generalize hη0 : η.new (.live false (List.replicate 32 (.int .u8 0))) = η0 at hd0 E0
  have n0 : η0.nx = η.nx + 1 := by rw [← hη0]; rfl
  simp -implicitDefEqProofs (disch := omega) only [go_sem, hη0]
  obtain ⟨v1, η1, c1, rfl, m1, E1⟩ := new_spec X η0
  refine thenN_call ⟨_, η1, c1, ?_⟩
  have n1 : η0.nx < η1.nx := (m1 [η0.nx]).choose_spec.2.2.1
  have hz1 : RdBk η1 [η0.nx] z l := by
    rcases hz with hz | ⟨b', off', n', cap', q1, q2, q3, _⟩
    · exact .inl hz
    · exact .inr ⟨b', off', n', cap', q1, (q2.ext E0 q3).ext E1 (by omega), by omega, by simp; omega⟩
  obtain ⟨v2, η2, c2, m2, n2, f2⟩ := made_add X (bad := [η0.nx]) (by simp) (by simpa using n1) (Made.zero (m1 [η0.nx])) hz1 hm (by simp)
  simp -implicitDefEqProofs (disch := omega) only [go_sem]
  refine thenN_call ⟨_, η2, c2, ?_⟩
  obtain ⟨v3, η3, c3, rfl, E3⟩ := made_sum X m2 (by simp; omega)
  simp -implicitDefEqProofs (disch := omega) only [go_sem]
  refine thenN_call ⟨_, η3, c3, ?_⟩
  have hd3 : η3.f η.nx = .live false (List.replicate 32 (.int .u8 0)) := by rw [E3.2 η.nx (by omega), f2 η.nx (by omega) (by omega), E1.2 η.nx (by omega)]; exact hd0
  have hs := u8s_length (shaF F l)
  have hZl : (List.replicate 32 (AV.int .u8 0)).length = 32 := rfl
  have hsl : (shaF F l).length = 32 := sumF_len _ _ _
  simp -implicitDefEqProofs (disch := omega) only [go_sem, hd3]
  have E03 : ExtB η.nx η η3 := ⟨by have := E3.1; omega, fun b hb => by rw [E3.2 b (by omega), f2 b (by omega) (by omega), E1.2 b (by omega), E0.2 b hb]⟩
  exact E03.trans (.put (Nat.le_refl _))
end Go.Proofs.Ytfcakkiakodokaa
