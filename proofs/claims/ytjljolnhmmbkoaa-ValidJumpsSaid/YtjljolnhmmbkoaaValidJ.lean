/- What is proved: ValidJumps' walk. Conditions: none. -/
import Derived.Test.YtjljolnhmmbkoaaValid18
set_option linter.unusedVariables false
set_option linter.unusedSimpArgs false
set_option linter.unusedSectionVars false
namespace Go.Proofs.Ytjljolnhmmbkoaa
open Go.Eng Go.Plain
set_option autoImplicit false
set_option maxRecDepth 100000
variable {nat : ∀ [Deep], Nats}
theorem set0 (l : List AV) (i : Nat) (a b c d x : AV) : (setsL l i [a, b, c, d]).set i x = setsL l i [x, b, c, d] := by
  show ((((l.set i a).set (i + 1) b).set (i + 1 + 1) c).set (i + 1 + 1 + 1) d).set i x = (((l.set i x).set (i + 1) b).set (i + 1 + 1) c).set (i + 1 + 1 + 1) d
  rw [List.set_comm _ _ (show i + 1 + 1 + 1 ≠ i by omega), List.set_comm _ _ (show i + 1 + 1 ≠ i by omega), List.set_comm _ _ (show i + 1 ≠ i by omega), List.set_set]
set_option maxHeartbeats 2000000 in
theorem jumps_spec (U : Usual nat) (h16 : ∀ [Deep], nat 16 = some trueNat) (η : HN) (n r to : Nat) (un : Bool) (hn : n < 18446744073709551616) (hr : r < 18446744073709551616) (ht : to < 18446744073709551616) :
    ∃ v η', CallN Try.prog nat 7 [.int .i64 n, .int .i64 r, .int .i64 to, .bool un] η v η' ∧ v = .bool true := by
  refine call_of (PT := pl7) Try.func7 rfl (U 7 (by decide)) ok7 rfl ?_
  simp -implicitDefEqProofs (disch := omega) only [go_sem]
  refine thenN_call ⟨_, _, callN_true h16, ?_⟩
  by_cases n0 : 9223372036854775807 < n
  · have hlt : ltN .i64 n 1 = true := ltN_neg1 n0
    simp -implicitDefEqProofs (disch := omega) only [go_sem, hlt]
  by_cases n1 : n < 1
  · simp -implicitDefEqProofs (disch := omega) only [go_sem]
  by_cases n2 : 40 < n
  · simp -implicitDefEqProofs (disch := omega) only [go_sem]
  by_cases r0 : 9223372036854775807 < r
  · have hlt := ltN_neg r0
    simp -implicitDefEqProofs (disch := omega) only [go_sem, hlt]
  by_cases r1 : n ≤ r
  · simp -implicitDefEqProofs (disch := omega) only [go_sem]
  have hm5 : ∀ φ : FN, opd φ (.const (.int .i64 (-5))) = .int .i64 18446744073709551611 := fun φ => opd_int rfl rfl
  have hto : ltN .i64 to 18446744073709551611 = decide (9223372036854775807 < to ∧ to < 18446744073709551611) ∧ ltN .i64 50 to = decide (50 < to ∧ to ≤ 9223372036854775807) := ltN_to ht
  by_cases t1 : 9223372036854775807 < to ∧ to < 18446744073709551611
  · rw [decide_eq_true t1] at hto
    simp -implicitDefEqProofs (disch := omega) only [go_sem, hm5, hto]
  by_cases t2 : 50 < to ∧ to ≤ 9223372036854775807
  · rw [decide_eq_false t1, decide_eq_true t2] at hto
    simp -implicitDefEqProofs (disch := omega) only [go_sem, hm5, hto]
  rw [decide_eq_false t1, decide_eq_false t2] at hto
  have hc : ¬32 = 0 ∧ (n + 1) * 32 ≤ 140737488355328 := ⟨by decide, by omega⟩
  have g1 := rowsC_len (List.replicate (n + 1) ⟨0, 0, 0, 0⟩)
  have g2 : (List.replicate (n + 1) (⟨0, 0, 0, 0⟩ : Ins)).length = n + 1 := List.length_replicate
  have g3 := rowsC_set (List.replicate (n + 1) ⟨0, 0, 0, 0⟩) (r + 1) ⟨20, to, 0, 0⟩ (by omega)
  have g4 : Ins.cells ⟨20, to, 0, 0⟩ = [.int .i64 20, .int .i64 to, .int .i64 0, .int .i64 0] := rfl
  rw [g4] at g3
  simp -implicitDefEqProofs (disch := omega) only [go_sem, hm5, hto, if_pos hc, rowsC_rep, g3]
  have g5 : (rowsC ((List.replicate (n + 1) (⟨0, 0, 0, 0⟩ : Ins)).set (r + 1) ⟨20, to, 0, 0⟩)).set ((r + 1) * 4) (.int .i64 19) = rowsC ((List.replicate (n + 1) (⟨0, 0, 0, 0⟩ : Ins)).set (r + 1) ⟨19, to, 0, 0⟩) := by
    rw [← g3, set0, ← rowsC_set _ _ _ (by omega)]; rfl
  have g6 := rowsC_len ((List.replicate (n + 1) (⟨0, 0, 0, 0⟩ : Ins)).set (r + 1) ⟨20, to, 0, 0⟩)
  rw [List.length_set] at g6
  cases un with
  | true =>
    simp -implicitDefEqProofs (disch := omega) only [go_sem, g5]
    have hck : ∀ η1 : HN, η1.nx = η.nx + 4 → η1.f η.nx = .live false [.int .i64 1] → η1.f (η.nx + 1) = .live false [.int .i64 0] → η1.f (η.nx + 1 + 1) = .live false (rowsC ((List.replicate (n + 1) (⟨0, 0, 0, 0⟩ : Ins)).set (r + 1) ⟨19, to, 0, 0⟩)) →
        IsP η1 ⟨.nilslice, .nilslice, .slice η.nx 0 1 (.kn 1), .nilslice, .slice (η.nx + 1) 0 1 (.kn 1), .slice (η.nx + 1 + 1) 0 (n + 1) (.kn (n + 1))⟩ (jumpsP n r to 19) := fun η1 h0 h1 h2 h3 =>
      ⟨rdI_nil, rdI_nil, rdI_blk [1] h1 (by omega), rdI_nil, rdI_blk [0] h2 (by omega), by
        have := rdC_blk (cap := .kn (n + 1)) _ h3 (by omega)
        rw [List.length_set, List.length_replicate] at this
        exact this⟩
    have hF : Fine (jumpsP n r to 19) := by
      refine ⟨⟨Nat.zero_le _, fun n hn => by cases hn⟩, ⟨Nat.zero_le _, fun n hn => by cases hn⟩, ⟨by show 1 ≤ _; omega, fun n hn => by have hn : n ∈ [1] := hn; rw [List.mem_singleton] at hn; omega⟩, ⟨Nat.zero_le _, fun n hn => by cases hn⟩, ⟨by show 1 ≤ _; omega, fun n hn => by have hn : n ∈ [0] := hn; rw [List.mem_singleton] at hn; omega⟩, ⟨by show (List.set _ _ _).length ≤ _; simp; omega, fun x hx => ?_⟩⟩
      rcases List.mem_or_eq_of_mem_set hx with h1 | rfl
      · rw [List.mem_replicate] at h1
        rw [h1.2]
        decide
      · dsimp only; omega
    refine thenN_call (check_then U _ _ (hck _ rfl ?_ ?_ ?_) hF fun η2 E2 => ?_)
    · simp -implicitDefEqProofs (disch := omega) only [go_sem]
    · simp -implicitDefEqProofs (disch := omega) only [go_sem]
    · simp -implicitDefEqProofs (disch := omega) only [go_sem]
    rw [jumps_check n r to 19 (by decide) (by omega) (by omega)]
    by_cases w : r + 1 < to ∧ to ≤ n + 1
    · rw [if_pos w]
      obtain ⟨w1, w2⟩ := w
      simp -implicitDefEqProofs (disch := omega) only [go_sem, Bool.not_true, Bool.not_false]
    · rw [if_neg w]
      by_cases x1 : 9223372036854775807 < to
      · have hl : ltN .i64 (r + 1) to = false := ltN_negr (by omega) x1
        simp -implicitDefEqProofs (disch := omega) only [go_sem, hl, Bool.not_true, Bool.not_false, eq26_t]
      by_cases x2 : r + 1 < to
      · have x3 : n + 1 < to := by omega
        simp -implicitDefEqProofs (disch := omega) only [go_sem, Bool.not_true, Bool.not_false, eq26_t]
      · simp -implicitDefEqProofs (disch := omega) only [go_sem, Bool.not_true, Bool.not_false, eq26_t]
  | false =>
    simp -implicitDefEqProofs (disch := omega) only [go_sem]
    have hck : ∀ η1 : HN, η1.nx = η.nx + 4 → η1.f η.nx = .live false [.int .i64 1] → η1.f (η.nx + 1) = .live false [.int .i64 0] → η1.f (η.nx + 1 + 1) = .live false (rowsC ((List.replicate (n + 1) (⟨0, 0, 0, 0⟩ : Ins)).set (r + 1) ⟨20, to, 0, 0⟩)) →
        IsP η1 ⟨.nilslice, .nilslice, .slice η.nx 0 1 (.kn 1), .nilslice, .slice (η.nx + 1) 0 1 (.kn 1), .slice (η.nx + 1 + 1) 0 (n + 1) (.kn (n + 1))⟩ (jumpsP n r to 20) := fun η1 h0 h1 h2 h3 =>
      ⟨rdI_nil, rdI_nil, rdI_blk [1] h1 (by omega), rdI_nil, rdI_blk [0] h2 (by omega), by
        have := rdC_blk (cap := .kn (n + 1)) _ h3 (by omega)
        rw [List.length_set, List.length_replicate] at this
        exact this⟩
    have hF : Fine (jumpsP n r to 20) := by
      refine ⟨⟨Nat.zero_le _, fun n hn => by cases hn⟩, ⟨Nat.zero_le _, fun n hn => by cases hn⟩, ⟨by show 1 ≤ _; omega, fun n hn => by have hn : n ∈ [1] := hn; rw [List.mem_singleton] at hn; omega⟩, ⟨Nat.zero_le _, fun n hn => by cases hn⟩, ⟨by show 1 ≤ _; omega, fun n hn => by have hn : n ∈ [0] := hn; rw [List.mem_singleton] at hn; omega⟩, ⟨by show (List.set _ _ _).length ≤ _; simp; omega, fun x hx => ?_⟩⟩
      rcases List.mem_or_eq_of_mem_set hx with h1 | rfl
      · rw [List.mem_replicate] at h1
        rw [h1.2]
        decide
      · dsimp only; omega
    refine thenN_call (check_then U _ _ (hck _ rfl ?_ ?_ ?_) hF fun η2 E2 => ?_)
    · simp -implicitDefEqProofs (disch := omega) only [go_sem]
    · simp -implicitDefEqProofs (disch := omega) only [go_sem]
    · simp -implicitDefEqProofs (disch := omega) only [go_sem]
    rw [jumps_check n r to 20 (by decide) (by omega) (by omega)]
    by_cases w : r + 1 < to ∧ to ≤ n + 1
    · rw [if_pos w]
      obtain ⟨w1, w2⟩ := w
      simp -implicitDefEqProofs (disch := omega) only [go_sem, Bool.not_true, Bool.not_false]
    · rw [if_neg w]
      by_cases x1 : 9223372036854775807 < to
      · have hl : ltN .i64 (r + 1) to = false := ltN_negr (by omega) x1
        simp -implicitDefEqProofs (disch := omega) only [go_sem, hl, Bool.not_true, Bool.not_false, eq26_t]
      by_cases x2 : r + 1 < to
      · have x3 : n + 1 < to := by omega
        simp -implicitDefEqProofs (disch := omega) only [go_sem, Bool.not_true, Bool.not_false, eq26_t]
      · simp -implicitDefEqProofs (disch := omega) only [go_sem, Bool.not_true, Bool.not_false, eq26_t]
end Go.Proofs.Ytjljolnhmmbkoaa
