/- What is proved: ShaSays's walk. Conditions: rounds, roots and primes are told. -/
import Derived.Test.YtfcakkiakodokaaSha13
import Derived.Test.YtfcakkiakodokaaSha15
set_option linter.unusedVariables false
set_option linter.unusedSimpArgs false
set_option linter.unusedSectionVars false
namespace Go.Proofs.Ytfcakkiakodokaa
open Go.Eng
set_option autoImplicit false
set_option maxRecDepth 100000
variable {nat : ∀ [Deep], Nats} {F : List Nat → List Nat → List Nat}
theorem sha_lt (l : List Nat) : ∀ x ∈ shaF F l, x < 256 := by
  intro x hx
  unfold shaF sumF outF at hx
  obtain ⟨j, _, rfl⟩ := List.mem_map.1 hx
  unfold outB cvtN
  cases nneg .u32 (shrN .u32 ((blkF F (blkF F H0 l) (tailF (restF l) l.length)).getD (j / 4) 0) (24 - 8 * (j % 4))) with
  | true => exact Nat.mod_lt _ (by decide)
  | false => exact @res_lt ⟨0, 0⟩ noEnv .u8 _
theorem strEq_refl (n v : Nat) : strEq n v n v = true := by
  unfold strEq
  rw [Nat.beq_refl, Nat.beq_refl]; rfl
theorem hex_then (h9 : ∀ [Deep], nat 9 = none) {η : HN} {D : List Nat} {Q : AV → HN → Prop} (hD : D.length = 32) (hD2 : ∀ x ∈ D, x < 256) (h : ∀ η', ExtB η.nx η η' → Q (.str (hexL D).length (hexV D)) η') : ∃ v η', CallN Try.prog nat 9 [.agg (u8s D)] η v η' ∧ Q v η' := by
  obtain ⟨v, η', k, rfl, E⟩ := hex_spec h9 η D hD hD2
  exact ⟨_, η', k, h η' E⟩
theorem hexR_then (h12 : ∀ [Deep], nat 12 = none) {η : HN} {D : List Nat} {Q : AV → HN → Prop} (hD : D.length = 32) (hD2 : ∀ x ∈ D, x < 256) (h : ∀ η', ExtB η.nx η η' → Q (.str (hexL D).length (hexV D)) η') : ∃ v η', CallN Try.prog nat 12 [.agg (u8s D)] η v η' ∧ Q v η' := by
  obtain ⟨v, η', k, rfl, E⟩ := hexR_spec h12 η D hD hD2
  exact ⟨_, η', k, h η' E⟩
theorem says_spec (X : Ctx2 nat F) (h4 : ∀ [Deep], nat 4 = none) (h8 : ∀ [Deep], nat 8 = some trueNat) (η : HN) (z : AV) (l : List Nat) (hz : ArgB η z l) (hl : l.length ≤ 9223372036854775807) :
    ∃ v η', CallN Try.prog nat 4 [z] η v η' ∧ v = .bool true := by
  refine call_of (PT := pl4) Try.func4 rfl h4 ok4 rfl ?_
  simp -implicitDefEqProofs (disch := omega) only [go_sem]
  refine thenN_call ⟨_, _, callN_true h8, ?_⟩
  have hzl : ∀ η', lenN (.slice 5 1 1) z η' = .ok (.int .i64 l.length) η' := fun η' => hz.len (η' := η') (e := 5) (y := 1) hl
  by_cases l5 : 400 < l.length
  · simp -implicitDefEqProofs (disch := omega) only [go_sem, hzl]
  have lb : l.length ≤ 549755813888 := by omega
  simp -implicitDefEqProofs (disch := omega) only [go_sem, hzl]
  refine thenN_call (of_then X (hz.rd (bad := []) (.refl _ _) (by simp)) lb fun η1 E1 => ?_)
  have u1 : (u8s (shaF F l)).length = 32 := by rw [u8s_length, sha_len]
  have ur : (List.replicate 32 (AV.int .u8 0)).length = 32 := rfl
  have ut : (u8s (shaF F l)).take 32 = u8s (shaF F l) := List.take_of_length_le (by omega)
  simp -implicitDefEqProofs (disch := omega) only [go_sem, u1, ur, ut]
  have x2 : ((η1.new (.live false (List.replicate 32 (.int .u8 0)))).put η1.nx (.live false (u8s (shaF F l)))).f η1.nx = .live false (u8s (shaF F l)) := by show (if η1.nx = η1.nx then _ else _) = _; rw [if_pos rfl]
  have E2 : ExtB η.nx η ((η1.new (.live false (List.replicate 32 (.int .u8 0)))).put η1.nx (.live false (u8s (shaF F l)))) := (E1.trans (.new E1.1)).trans (.put E1.1)
  have n2 : ((η1.new (.live false (List.replicate 32 (.int .u8 0)))).put η1.nx (.live false (u8s (shaF F l)))).nx = η1.nx + 1 := rfl
  generalize (η1.new (.live false (List.replicate 32 (.int .u8 0)))).put η1.nx (.live false (u8s (shaF F l))) = η2 at *
  generalize η1.nx = q at *
  refine dE_call (ref_then X (hz.rd (bad := []) E2 (by simp)) lb fun η3 F3 => ?_)
  have e3 := F3.1
  have x3 : η3.f q = .live false (u8s (shaF F l)) := by rw [F3.2 q (by omega)]; exact x2
  simp -implicitDefEqProofs (disch := omega) only [go_sem, u1, ut, x2, x3, eq24 (sha_len l) (sha_len l)]
  refine dE_call (hex_then (X.none2 9 (by simp)) (sha_len l) (sha_lt l) fun η4 F4 => ?_)
  have e4 := F4.1
  have x4 : η4.f q = .live false (u8s (shaF F l)) := by rw [F4.2 q (by omega)]; exact x3
  simp -implicitDefEqProofs (disch := omega) only [go_sem, u1, ut, x2, x3, x4, eq24 (sha_len l) (sha_len l)]
  refine dE_call (hexR_then (X.none2 12 (by simp)) (sha_len l) (sha_lt l) fun η5 F5 => ?_)
  have e5 := F5.1
  have x5 : η5.f q = .live false (u8s (shaF F l)) := by rw [F5.2 q (by omega)]; exact x4
  simp -implicitDefEqProofs (disch := omega) only [go_sem, u1, ut, x2, x3, x4, x5, eq24 (sha_len l) (sha_len l), strEq_refl]
end Go.Proofs.Ytfcakkiakodokaa
