/- What is proved: a digest's state, by lists: what is added part by part is as added at once. Conditions: none. -/
import Derived.Test.YtfcakkiakodokaaWJ
set_option linter.unusedVariables false
set_option linter.unusedSimpArgs false
set_option linter.unusedSectionVars false
namespace Go.Eng
set_option autoImplicit false
section
variable (F : List Nat → List Nat → List Nat)
/-- all whole blocks, mixed -/
noncomputable def blkF (h : List Nat) (l : List Nat) : List Nat := if 64 ≤ l.length then blkF (F h (l.take 64)) (l.drop 64) else h
termination_by l.length
decreasing_by simp; omega
/-- what is left -/
noncomputable def restF (l : List Nat) : List Nat := if 64 ≤ l.length then restF (l.drop 64) else l
termination_by l.length
decreasing_by simp; omega
theorem restF_lt (l : List Nat) : (restF l).length < 64 := by
  induction hn : l.length using Nat.strongRecOn generalizing l with
  | _ n ih =>
    rw [restF]
    by_cases h : 64 ≤ l.length
    · rw [if_pos h]; exact ih (l.drop 64).length (by simp; omega) _ rfl
    · rw [if_neg h]; omega
theorem app_F (l m : List Nat) : (∀ h, blkF F h (l ++ m) = blkF F (blkF F h l) (restF l ++ m)) ∧ restF (l ++ m) = restF (restF l ++ m) := by
  induction hn : l.length using Nat.strongRecOn generalizing l with
  | _ n ih =>
    by_cases h : 64 ≤ l.length
    · have h2 : 64 ≤ (l ++ m).length := by simp; omega
      obtain ⟨i1, i2⟩ := ih (l.drop 64).length (by simp; omega) (l.drop 64) rfl
      have e1 : (l ++ m).take 64 = l.take 64 := by rw [List.take_append_of_le_length h]
      have e2 : (l ++ m).drop 64 = l.drop 64 ++ m := by rw [List.drop_append_of_le_length h]
      have r1 : restF l = restF (l.drop 64) := by rw [restF, if_pos h]
      refine ⟨fun g => ?_, ?_⟩
      · rw [blkF, if_pos h2, e1, e2, i1, r1]
        congr 1
        rw [blkF.eq_1 F g l, if_pos h]
      · rw [restF, if_pos h2, e2, i2, r1]
    · have r1 : restF l = l := by rw [restF, if_neg h]
      refine ⟨fun g => ?_, by rw [r1]⟩
      rw [r1, blkF.eq_1 F g l, if_neg h]
theorem blkF_len (hF : ∀ h l, (F h l).length = 8) (h l : List Nat) (h8 : h.length = 8) : (blkF F h l).length = 8 := by
  induction hn : l.length using Nat.strongRecOn generalizing l h with
  | _ n ih =>
    rw [blkF]
    by_cases hc : 64 ≤ l.length
    · rw [if_pos hc]; exact ih (l.drop 64).length (by simp; omega) _ _ (hF _ _) rfl
    · rw [if_neg hc]; exact h8
end
end Go.Eng
