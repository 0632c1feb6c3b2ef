/- What is proved: ValidBounds' walk. Conditions: none. -/
import Derived.Test.YtjljolnhmmbkoaaValid18
set_option linter.unusedVariables false
set_option linter.unusedSimpArgs false
set_option linter.unusedSectionVars false
namespace Go.Proofs.Ytjljolnhmmbkoaa
open Go.Eng Go.Plain
set_option autoImplicit false
set_option maxRecDepth 100000
variable {nat : ∀ [Deep], Nats}
def bodyL (n i : Nat) : List Ins := (List.range i).map (fun j => ⟨20, j + 1, 0, 0⟩) ++ List.replicate (n - i) ⟨0, 0, 0, 0⟩
theorem bodyL_len {n i : Nat} (h : i ≤ n) : (bodyL n i).length = n := by unfold bodyL; rw [List.length_append, List.length_map, List.length_range, List.length_replicate]; omega
theorem bodyL_set {n i : Nat} (h : i < n) : (bodyL n i).set i ⟨20, i + 1, 0, 0⟩ = bodyL n (i + 1) := by
  unfold bodyL
  rw [List.set_append, if_neg (by simp), List.length_map, List.length_range, Nat.sub_self, show n - i = n - (i + 1) + 1 by omega, List.replicate_succ, List.set_cons_zero, List.range_succ, List.map_append, List.append_assoc]; rfl
theorem bodyL_all {n : Nat} : bodyL n n = (List.range n).map (fun j => ⟨20, j + 1, 0, 0⟩) := by unfold bodyL; rw [Nat.sub_self, List.replicate_zero, List.append_nil]
def boI (A C D X s k n : Nat) (m : Nat) (φ : FN) (η : HN) : Prop := ∃ i, m = n - i ∧ i ≤ n ∧ φ 0 = .int .i64 s ∧ φ 1 = .int .i64 k ∧ φ 2 = .int .i64 n ∧ φ 7 = .ptr X 0 ∧ φ 8 = .int .i64 i ∧
  η.f X = .live false [.slice (A + 1 + 1) 0 k (.kn k), .nilslice, .slice A 0 s (.kn s), .slice (A + 1) 0 s (.kn s), .slice D 0 1 (.kn 1), .slice C 0 n (.kn n)] ∧ η.f C = .live false (rowsC (bodyL n i)) ∧
  η.f A = .live false ((List.replicate s 2).map (.int .i64)) ∧ η.f (A + 1) = .live false ((List.replicate s 2).map (.int .i64)) ∧ η.f (A + 1 + 1) = .live false ((List.replicate k 2).map (.int .i64)) ∧ η.f D = .live false [.int .i64 0] ∧ (A + 1 + 1 < η.nx ∧ C + 5 = A ∧ D + 4 = A ∧ X + 2 = A)
set_option maxHeartbeats 2000000 in
theorem bounds_spec (U : Usual nat) (h16 : ∀ [Deep], nat 16 = some trueNat) (η : HN) (s k n : Nat) (hs : s < 18446744073709551616) (hk : k < 18446744073709551616) (hn : n < 18446744073709551616) :
    ∃ v η', CallN Try.prog nat 6 [.int .i64 s, .int .i64 k, .int .i64 n] η v η' ∧ v = .bool true := by
  refine call_of (PT := pl6) Try.func6 rfl (U 6 (by decide)) ok6 rfl ?_
  simp -implicitDefEqProofs (disch := omega) only [go_sem]
  refine thenN_call ⟨_, _, callN_true h16, ?_⟩
  by_cases s1 : 9223372036854775807 < s
  · have hlt := ltN_neg s1
    simp -implicitDefEqProofs (disch := omega) only [go_sem, hlt]
  by_cases s2 : 1100 < s
  · simp -implicitDefEqProofs (disch := omega) only [go_sem]
  by_cases k1 : 9223372036854775807 < k
  · have hlt := ltN_neg k1
    simp -implicitDefEqProofs (disch := omega) only [go_sem, hlt]
  by_cases k2 : 70 < k
  · simp -implicitDefEqProofs (disch := omega) only [go_sem]
  by_cases n1 : 9223372036854775807 < n
  · have hlt := ltN_neg n1
    simp -implicitDefEqProofs (disch := omega) only [go_sem, hlt]
  by_cases n2 : 8300 < n
  · simp -implicitDefEqProofs (disch := omega) only [go_sem]
  simp -implicitDefEqProofs (disch := omega) only [go_sem]
  refine dE_call ⟨_, _, kinds21_call U _ _ (by omega), ?_⟩
  simp -implicitDefEqProofs (disch := omega) only [go_sem]
  refine dE_call ⟨_, _, kinds21_call U _ _ (by omega), ?_⟩
  simp -implicitDefEqProofs (disch := omega) only [go_sem]
  refine dE_call ⟨_, _, kinds21_call U _ _ (by omega), ?_⟩
  have hc : ¬32 = 0 ∧ n * 32 ≤ 140737488355328 := ⟨by decide, by omega⟩
  simp -implicitDefEqProofs (disch := omega) only [go_sem, if_pos hc, rowsC_rep]
  generalize hA : η.nx + (1 + 1 + 1 + 1 + 1 + 1 + 1 + 1 + 1 + 1 + 1 + 1) = A
  generalize hC : η.nx + (1 + 1 + 1 + 1 + 1 + 1 + 1) = C
  generalize hD : η.nx + (1 + 1 + 1 + 1 + 1 + 1 + 1 + 1) = D
  generalize hX : η.nx + (1 + 1 + 1 + 1 + 1 + 1 + 1 + 1 + 1 + 1) = X
  refine wpN_loop (boI A C D X s k n) n ⟨0, by omega, Nat.zero_le _, rfl, rfl, rfl, rfl, rfl, ?_, ?_, ?_, ?_, ?_, ?_, ?_⟩ ?_
  · simp -implicitDefEqProofs (disch := omega) only [go_sem]
  · simp -implicitDefEqProofs (disch := omega) only [go_sem]
    rfl
  · simp -implicitDefEqProofs (disch := omega) only [go_sem, rep_map]
  · simp -implicitDefEqProofs (disch := omega) only [go_sem, rep_map]
  · simp -implicitDefEqProofs (disch := omega) only [go_sem, rep_map]
  · simp -implicitDefEqProofs (disch := omega) only [go_sem]
  · simp -implicitDefEqProofs (disch := omega) only [go_sem]
    omega
  rintro m φ η1 ⟨i, hm, hi, p0, p1, p2, p7, p8, y1, y2, y3, y4, y5, y6, y7⟩
  by_cases hlt : i < n
  · have g1 := rowsC_len (bodyL n i)
    have g2 := bodyL_len hi
    have g3 := rowsC_set (bodyL n i) i ⟨20, i + 1, 0, 0⟩ (by omega)
    have g4 : Ins.cells ⟨20, i + 1, 0, 0⟩ = [.int .i64 20, .int .i64 (i + 1), .int .i64 0, .int .i64 0] := rfl
    rw [g4, bodyL_set hlt] at g3
    simp -implicitDefEqProofs (disch := omega) only [go_sem, p0, p1, p2, p7, p8, y1, y2, g3]
    refine ⟨n - (i + 1), by omega, i + 1, rfl, by omega, p0, p1, p2, p7, rfl, ?_, ?_, ?_, ?_, ?_, ?_, ?_⟩
    all_goals simp -implicitDefEqProofs (disch := omega) only [go_sem, y1, y2, y3, y4, y5, y6, y7]
  obtain rfl : i = n := by omega
  simp -implicitDefEqProofs (disch := omega) only [go_sem, p0, p1, p2, p7, p8, y1]
  have hP : IsP η1 ⟨.slice (A + 1 + 1) 0 k (.kn k), .nilslice, .slice A 0 s (.kn s), .slice (A + 1) 0 s (.kn s), .slice D 0 1 (.kn 1), .slice C 0 i (.kn i)⟩ (boundsP s k i) := by
    have q1 : ∀ (b x : Nat), η1.f b = .live false ((List.replicate x 2).map (.int .i64)) → b < η1.nx → RdI .i64 η1 (.slice b 0 x (.kn x)) (List.replicate x 2) := fun b x hb hn => by
      have := rdI_blk (cap := .kn x) (List.replicate x 2) hb hn
      rw [List.length_replicate] at this; exact this
    refine ⟨q1 _ _ y5 (by omega), rdI_nil, q1 _ _ y3 (by omega), q1 _ _ y4 (by omega), rdI_blk [0] y6 (by omega), ?_⟩
    have := rdC_blk (cap := .kn i) _ y2 (by omega)
    rw [bodyL_len (Nat.le_refl _), bodyL_all] at this
    exact this
  have hF : Fine (boundsP s k i) := by
    have q : ∀ x : Nat, x ≤ 1100 → (List.replicate x 2).length ≤ 1099511627776 ∧ ∀ n ∈ List.replicate x 2, n < 18446744073709551616 := fun x hx => ⟨by rw [List.length_replicate]; omega, fun n hn => by rw [List.mem_replicate] at hn; omega⟩
    refine ⟨q k (by omega), ⟨by show 0 ≤ _; omega, fun n hn => by cases hn⟩, q s (by omega), q s (by omega), ⟨by show 1 ≤ _; omega, fun n hn => by have hn : n ∈ [0] := hn; rw [List.mem_singleton] at hn; omega⟩, ⟨by show (List.map _ _).length ≤ _; simp; omega, fun x hx => ?_⟩⟩
    obtain ⟨j, hj, rfl⟩ := List.mem_map.1 hx
    rw [List.mem_range] at hj
    dsimp only
    omega
  refine thenN_call (check_then U _ _ hP hF fun η2 E2 => ?_)
  rw [bounds_check]
  have w2 := (E2.2 _ (by omega)).trans y1
  by_cases hb : s ≤ 1024 ∧ k ≤ 64 ∧ i ≤ 8192
  · rw [if_pos hb]
    obtain ⟨hb1, hb2, hb3⟩ := hb
    simp -implicitDefEqProofs (disch := omega) only [go_sem, p0, p1, p2, p7, p8, w2, eq26_t, Bool.not_true, Bool.not_false]
  · rw [if_neg hb]
    by_cases b1 : 1024 < s
    · simp -implicitDefEqProofs (disch := omega) only [go_sem, p0, p1, p2, p7, p8, w2, eq26_t, Bool.not_true, Bool.not_false]
    by_cases b2 : 64 < k
    · simp -implicitDefEqProofs (disch := omega) only [go_sem, p0, p1, p2, p7, p8, w2, eq26_t, Bool.not_true, Bool.not_false]
    have b3 : 8192 < i := by omega
    simp -implicitDefEqProofs (disch := omega) only [go_sem, p0, p1, p2, p7, p8, w2, eq26_t, Bool.not_true, Bool.not_false]
end Go.Proofs.Ytjljolnhmmbkoaa
