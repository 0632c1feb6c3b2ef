/- What is proved: an operator as the document's own works it out; rows, compared; whether rows or programs are more than is asked of. rows that come in; rows, compared; whether rows or programs are more than is asked of. ints, rows, bytes that come in, as lists. a machine's step, refused or not, told at once; many steps. Conditions: as each theorem says. -/
import Derived.Test.YtjljolnhmmbkoaaMacD
import Derived.Test.YtjljolnhmmbkoaaMacA
import Derived.Test.YtjljolnhmmbkoaaPlain
import Derived.Test.YtjljolnhmmbkoaaWN
set_option linter.unusedVariables false
set_option linter.unusedSimpArgs false
set_option linter.unusedSectionVars false
namespace Go.Proofs.Ytjljolnhmmbkoaa
open Go.Eng Go.Plain
set_option autoImplicit false
set_option maxRecDepth 100000
variable {nat : ∀ [Deep], Nats}
@[go_sem] theorem opd_o0 {φ : FN} : opd φ (.const (.string { data := #[110, 111, 116] })) = .str 3 7630702 := rfl
@[go_sem] theorem opd_o1 {φ : FN} : opd φ (.const (.string { data := #[110, 101, 103] })) = .str 3 6776174 := rfl
@[go_sem] theorem opd_o6 {φ : FN} : opd φ (.const (.string { data := #[109, 111, 100] })) = .str 3 6582125 := rfl
@[go_sem] theorem opd_o10 {φ : FN} : opd φ (.const (.string { data := #[97, 110, 100] })) = .str 3 6581857 := rfl
@[go_sem] theorem opd_o11 {φ : FN} : opd φ (.const (.string { data := #[111, 114] })) = .str 2 29295 := rfl
@[go_sem] theorem opd_o12 {φ : FN} : opd φ (.const (.string { data := #[120, 111, 114] })) = .str 3 7499640 := rfl
@[go_sem] theorem opd_o2 {φ : FN} : opd φ (.const (.string { data := #[43] })) = .str 1 43 := rfl
@[go_sem] theorem opd_o3 {φ : FN} : opd φ (.const (.string { data := #[45] })) = .str 1 45 := rfl
@[go_sem] theorem opd_o4 {φ : FN} : opd φ (.const (.string { data := #[42] })) = .str 1 42 := rfl
@[go_sem] theorem opd_o5 {φ : FN} : opd φ (.const (.string { data := #[47] })) = .str 1 47 := rfl
@[go_sem] theorem opd_o7 {φ : FN} : opd φ (.const (.string { data := #[61] })) = .str 1 61 := rfl
@[go_sem] theorem opd_o8 {φ : FN} : opd φ (.const (.string { data := #[60] })) = .str 1 60 := rfl
@[go_sem] theorem opd_o9 {φ : FN} : opd φ (.const (.string { data := #[60, 61] })) = .str 2 15676 := rfl
@[go_sem] theorem opd_o13 {φ : FN} : opd φ (.const (.string { data := #[105, 102] })) = .str 2 26217 := rfl
@[go_sem] theorem opd_o14 {φ : FN} : opd φ (.const (.string { data := #[60, 62] })) = .str 2 15932 := rfl
@[go_sem] theorem opd_o15 {φ : FN} : opd φ (.const (.string { data := #[62] })) = .str 1 62 := rfl
@[go_sem] theorem opd_o16 {φ : FN} : opd φ (.const (.string { data := #[62, 61] })) = .str 2 15678 := rfl
def opStr : Nat → AV
 | 6 => .str 3 7630702
 | 7 => .str 3 6776174
 | 8 => .str 1 43
 | 9 => .str 1 45
 | 10 => .str 1 42
 | 11 => .str 1 47
 | 12 => .str 3 6582125
 | 13 => .str 1 61
 | 14 => .str 1 60
 | 15 => .str 2 15676
 | 16 => .str 3 6581857
 | 17 => .str 2 29295
 | 18 => .str 3 7499640
 | _ => .str 0 0
theorem strEq_at (n v m w : Nat) : strEq n v m w = (decide (n = m) && decide (v = w)) := by
 have e : ∀ a b : Nat, Nat.beq a b = decide (a = b) := fun a b => by rw [Bool.eq_iff_iff, decide_eq_true_eq]; exact beq_true
 unfold strEq
 rw [e n m, e v w]
 cases decide (n = m) <;> rfl
theorem truth72_call (U : Usual nat) (η : HN) (b : Bool) : CallN Try.prog nat 72 [.bool b] η (.int .i64 (truthN b)) η := by
 have : ∃ v η', CallN Try.prog nat 72 [.bool b] η v η' ∧ v = .int .i64 (truthN b) ∧ η' = η := by
  refine call_of (PT := pl72) Try.func72 rfl (U 72 (by decide)) ok72 rfl ?_
  cases b
  ·simp -implicitDefEqProofs (disch := omega) only [go_sem]; first | rfl | exact ⟨rfl, rfl⟩
  ·simp -implicitDefEqProofs (disch := omega) only [go_sem]; first | rfl | exact ⟨rfl, rfl⟩
 obtain ⟨v, η', k, rfl, rfl⟩ := this
 exact k
theorem refop_6 (U : Usual nat) {η : HN} {y : AV} {a : Nat} {l : List Nat} (hy : RdI .i64 η y (a :: l)) : ∃ v η', CallN Try.prog nat 40 [opStr 6, y] η v η' ∧ v = .int .i64 ((1 + (18446744073709551616 - a)) % 18446744073709551616) ∧ η' = η := by
 refine call_of (PT := pl40) Try.func40 rfl (U 40 (by decide)) ok40 rfl ?_
 obtain ⟨b0, off, cap, ro, row, ye, hb, hbn, r0⟩ := hy.at (i := 0) (by simp)
 rw [show opStr 6 = .str 3 7630702 from rfl, ye]
 rw [List.getElem_cons_zero, Nat.add_zero] at r0
 rw [List.length_cons]
 simp -implicitDefEqProofs (disch := omega) only [go_sem, hb, r0, strEq_at]
theorem refop_7 (U : Usual nat) {η : HN} {y : AV} {a : Nat} {l : List Nat} (hy : RdI .i64 η y (a :: l)) : ∃ v η', CallN Try.prog nat 40 [opStr 7, y] η v η' ∧ v = .int .i64 ((18446744073709551616 - a) % 18446744073709551616) ∧ η' = η := by
 refine call_of (PT := pl40) Try.func40 rfl (U 40 (by decide)) ok40 rfl ?_
 obtain ⟨b0, off, cap, ro, row, ye, hb, hbn, r0⟩ := hy.at (i := 0) (by simp)
 rw [show opStr 7 = .str 3 6776174 from rfl, ye]
 rw [List.getElem_cons_zero, Nat.add_zero] at r0
 rw [List.length_cons]
 simp -implicitDefEqProofs (disch := omega) only [go_sem, hb, r0, strEq_at]
set_option maxHeartbeats 1000000 in
theorem refop_8 (U : Usual nat) {η : HN} {y : AV} {a b : Nat} (ha : a < 18446744073709551616) (hbl : b < 18446744073709551616) (hy : RdI .i64 η y [a, b]) : ∃ v η', CallN Try.prog nat 40 [opStr 8, y] η v η' ∧ v = .int .i64 (refF 8 a b) ∧ η' = η := by
 refine call_of (PT := pl40) Try.func40 rfl (U 40 (by decide)) ok40 rfl ?_
 obtain ⟨b0, off, cap, ro, row, ye, hb, hbn, r0⟩ := hy.at (i := 0) (by simp)
 obtain ⟨b1, off1, cap1, ro1, row1, ye1, hb1, hbn1, r1⟩ := hy.at (i := 1) (by simp)
 rw [ye] at ye1
 cases ye1
 rw [hb] at hb1
 cases hb1
 rw [show opStr 8 = .str 1 43 from rfl, ye]
 rw [List.getElem_cons_zero, Nat.add_zero] at r0
 rw [List.getElem_cons_succ, List.getElem_cons_zero] at r1
 rw [show [a, b].length = 2 from rfl]
 simp -implicitDefEqProofs (disch := omega) only [go_sem, hb, r0, r1, strEq_at]
 first | rfl | exact ⟨rfl, rfl⟩
set_option maxHeartbeats 1000000 in
theorem refop_9 (U : Usual nat) {η : HN} {y : AV} {a b : Nat} (ha : a < 18446744073709551616) (hbl : b < 18446744073709551616) (hy : RdI .i64 η y [a, b]) : ∃ v η', CallN Try.prog nat 40 [opStr 9, y] η v η' ∧ v = .int .i64 (refF 9 a b) ∧ η' = η := by
 refine call_of (PT := pl40) Try.func40 rfl (U 40 (by decide)) ok40 rfl ?_
 obtain ⟨b0, off, cap, ro, row, ye, hb, hbn, r0⟩ := hy.at (i := 0) (by simp)
 obtain ⟨b1, off1, cap1, ro1, row1, ye1, hb1, hbn1, r1⟩ := hy.at (i := 1) (by simp)
 rw [ye] at ye1
 cases ye1
 rw [hb] at hb1
 cases hb1
 rw [show opStr 9 = .str 1 45 from rfl, ye]
 rw [List.getElem_cons_zero, Nat.add_zero] at r0
 rw [List.getElem_cons_succ, List.getElem_cons_zero] at r1
 rw [show [a, b].length = 2 from rfl]
 simp -implicitDefEqProofs (disch := omega) only [go_sem, hb, r0, r1, strEq_at]
 first | rfl | exact ⟨rfl, rfl⟩
set_option maxHeartbeats 1000000 in
theorem refop_10 (U : Usual nat) {η : HN} {y : AV} {a b : Nat} (ha : a < 18446744073709551616) (hbl : b < 18446744073709551616) (hy : RdI .i64 η y [a, b]) : ∃ v η', CallN Try.prog nat 40 [opStr 10, y] η v η' ∧ v = .int .i64 (refF 10 a b) ∧ η' = η := by
 refine call_of (PT := pl40) Try.func40 rfl (U 40 (by decide)) ok40 rfl ?_
 obtain ⟨b0, off, cap, ro, row, ye, hb, hbn, r0⟩ := hy.at (i := 0) (by simp)
 obtain ⟨b1, off1, cap1, ro1, row1, ye1, hb1, hbn1, r1⟩ := hy.at (i := 1) (by simp)
 rw [ye] at ye1
 cases ye1
 rw [hb] at hb1
 cases hb1
 rw [show opStr 10 = .str 1 42 from rfl, ye]
 rw [List.getElem_cons_zero, Nat.add_zero] at r0
 rw [List.getElem_cons_succ, List.getElem_cons_zero] at r1
 rw [show [a, b].length = 2 from rfl]
 simp -implicitDefEqProofs (disch := omega) only [go_sem, hb, r0, r1, strEq_at]
 first | rfl | exact ⟨rfl, rfl⟩
set_option maxHeartbeats 1000000 in
theorem refop_11 (U : Usual nat) {η : HN} {y : AV} {a b : Nat} (ha : a < 18446744073709551616) (hbl : b < 18446744073709551616) (hy : RdI .i64 η y [a, b]) : ∃ v η', CallN Try.prog nat 40 [opStr 11, y] η v η' ∧ v = .int .i64 (refF 11 a b) ∧ η' = η := by
 refine call_of (PT := pl40) Try.func40 rfl (U 40 (by decide)) ok40 rfl ?_
 obtain ⟨b0, off, cap, ro, row, ye, hb, hbn, r0⟩ := hy.at (i := 0) (by simp)
 obtain ⟨b1, off1, cap1, ro1, row1, ye1, hb1, hbn1, r1⟩ := hy.at (i := 1) (by simp)
 rw [ye] at ye1
 cases ye1
 rw [hb] at hb1
 cases hb1
 rw [show opStr 11 = .str 1 47 from rfl, ye]
 rw [List.getElem_cons_zero, Nat.add_zero] at r0
 rw [List.getElem_cons_succ, List.getElem_cons_zero] at r1
 rw [show [a, b].length = 2 from rfl]
 by_cases h0 : b = 0
 ·subst h0
  simp -implicitDefEqProofs (disch := omega) only [go_sem, hb, r0, r1, strEq_at]
  first | rfl | exact ⟨rfl, rfl⟩
 by_cases h1 : b = 18446744073709551615
 ·subst h1
  simp -implicitDefEqProofs (disch := omega) only [go_sem, hb, r0, r1, strEq_at]
  first | rfl | exact ⟨rfl, rfl⟩
 ·have e : refF 11 a b = quoN .i64 a b := by unfold refF; rw [if_neg (by decide), if_neg (by decide), if_neg (by decide), if_pos rfl, if_neg h0, if_neg h1]
  rw [e]
  simp -implicitDefEqProofs (disch := omega) only [go_sem, hb, r0, r1, strEq_at, and_true]
set_option maxHeartbeats 1000000 in
theorem refop_12 (U : Usual nat) {η : HN} {y : AV} {a b : Nat} (ha : a < 18446744073709551616) (hbl : b < 18446744073709551616) (hy : RdI .i64 η y [a, b]) : ∃ v η', CallN Try.prog nat 40 [opStr 12, y] η v η' ∧ v = .int .i64 (refF 12 a b) ∧ η' = η := by
 refine call_of (PT := pl40) Try.func40 rfl (U 40 (by decide)) ok40 rfl ?_
 obtain ⟨b0, off, cap, ro, row, ye, hb, hbn, r0⟩ := hy.at (i := 0) (by simp)
 obtain ⟨b1, off1, cap1, ro1, row1, ye1, hb1, hbn1, r1⟩ := hy.at (i := 1) (by simp)
 rw [ye] at ye1
 cases ye1
 rw [hb] at hb1
 cases hb1
 rw [show opStr 12 = .str 3 6582125 from rfl, ye]
 rw [List.getElem_cons_zero, Nat.add_zero] at r0
 rw [List.getElem_cons_succ, List.getElem_cons_zero] at r1
 rw [show [a, b].length = 2 from rfl]
 by_cases h0 : b = 0
 ·subst h0
  simp -implicitDefEqProofs (disch := omega) only [go_sem, hb, r0, r1, strEq_at]
  first | rfl | exact ⟨rfl, rfl⟩
 by_cases h1 : b = 18446744073709551615
 ·subst h1
  simp -implicitDefEqProofs (disch := omega) only [go_sem, hb, r0, r1, strEq_at]
  first | rfl | exact ⟨rfl, rfl⟩
 ·have e : refF 12 a b = remN .i64 a b := by unfold refF; rw [if_neg (by decide), if_neg (by decide), if_neg (by decide), if_neg (by decide), if_pos rfl, if_neg h0, if_neg h1]
  rw [e]
  simp -implicitDefEqProofs (disch := omega) only [go_sem, hb, r0, r1, strEq_at, and_true]
set_option maxHeartbeats 1000000 in
theorem refop_13 (U : Usual nat) {η : HN} {y : AV} {a b : Nat} (ha : a < 18446744073709551616) (hbl : b < 18446744073709551616) (hy : RdI .i64 η y [a, b]) : ∃ v η', CallN Try.prog nat 40 [opStr 13, y] η v η' ∧ v = .int .i64 (refF 13 a b) ∧ η' = η := by
 refine call_of (PT := pl40) Try.func40 rfl (U 40 (by decide)) ok40 rfl ?_
 obtain ⟨b0, off, cap, ro, row, ye, hb, hbn, r0⟩ := hy.at (i := 0) (by simp)
 obtain ⟨b1, off1, cap1, ro1, row1, ye1, hb1, hbn1, r1⟩ := hy.at (i := 1) (by simp)
 rw [ye] at ye1
 cases ye1
 rw [hb] at hb1
 cases hb1
 rw [show opStr 13 = .str 1 61 from rfl, ye]
 rw [List.getElem_cons_zero, Nat.add_zero] at r0
 rw [List.getElem_cons_succ, List.getElem_cons_zero] at r1
 rw [show [a, b].length = 2 from rfl]
 simp -implicitDefEqProofs (disch := omega) only [go_sem, hb, r0, r1, strEq_at]
 refine thenN_call ⟨_, _, truth72_call U _ _, ?_⟩
 simp -implicitDefEqProofs (disch := omega) only [go_sem]; first | rfl | exact ⟨rfl, rfl⟩
set_option maxHeartbeats 1000000 in
theorem refop_14 (U : Usual nat) {η : HN} {y : AV} {a b : Nat} (ha : a < 18446744073709551616) (hbl : b < 18446744073709551616) (hy : RdI .i64 η y [a, b]) : ∃ v η', CallN Try.prog nat 40 [opStr 14, y] η v η' ∧ v = .int .i64 (refF 14 a b) ∧ η' = η := by
 refine call_of (PT := pl40) Try.func40 rfl (U 40 (by decide)) ok40 rfl ?_
 obtain ⟨b0, off, cap, ro, row, ye, hb, hbn, r0⟩ := hy.at (i := 0) (by simp)
 obtain ⟨b1, off1, cap1, ro1, row1, ye1, hb1, hbn1, r1⟩ := hy.at (i := 1) (by simp)
 rw [ye] at ye1
 cases ye1
 rw [hb] at hb1
 cases hb1
 rw [show opStr 14 = .str 1 60 from rfl, ye]
 rw [List.getElem_cons_zero, Nat.add_zero] at r0
 rw [List.getElem_cons_succ, List.getElem_cons_zero] at r1
 rw [show [a, b].length = 2 from rfl]
 simp -implicitDefEqProofs (disch := omega) only [go_sem, hb, r0, r1, strEq_at]
 refine thenN_call ⟨_, _, truth72_call U _ _, ?_⟩
 simp -implicitDefEqProofs (disch := omega) only [go_sem]; first | rfl | exact ⟨rfl, rfl⟩
set_option maxHeartbeats 1000000 in
theorem refop_15 (U : Usual nat) {η : HN} {y : AV} {a b : Nat} (ha : a < 18446744073709551616) (hbl : b < 18446744073709551616) (hy : RdI .i64 η y [a, b]) : ∃ v η', CallN Try.prog nat 40 [opStr 15, y] η v η' ∧ v = .int .i64 (refF 15 a b) ∧ η' = η := by
 refine call_of (PT := pl40) Try.func40 rfl (U 40 (by decide)) ok40 rfl ?_
 obtain ⟨b0, off, cap, ro, row, ye, hb, hbn, r0⟩ := hy.at (i := 0) (by simp)
 obtain ⟨b1, off1, cap1, ro1, row1, ye1, hb1, hbn1, r1⟩ := hy.at (i := 1) (by simp)
 rw [ye] at ye1
 cases ye1
 rw [hb] at hb1
 cases hb1
 rw [show opStr 15 = .str 2 15676 from rfl, ye]
 rw [List.getElem_cons_zero, Nat.add_zero] at r0
 rw [List.getElem_cons_succ, List.getElem_cons_zero] at r1
 rw [show [a, b].length = 2 from rfl]
 simp -implicitDefEqProofs (disch := omega) only [go_sem, hb, r0, r1, strEq_at]
 refine thenN_call ⟨_, _, truth72_call U _ _, ?_⟩
 simp -implicitDefEqProofs (disch := omega) only [go_sem]; first | rfl | exact ⟨rfl, rfl⟩
set_option maxHeartbeats 1000000 in
theorem refop_16 (U : Usual nat) {η : HN} {y : AV} {a b : Nat} (ha : a < 18446744073709551616) (hbl : b < 18446744073709551616) (hy : RdI .i64 η y [a, b]) : ∃ v η', CallN Try.prog nat 40 [opStr 16, y] η v η' ∧ v = .int .i64 (refF 16 a b) ∧ η' = η := by
 refine call_of (PT := pl40) Try.func40 rfl (U 40 (by decide)) ok40 rfl ?_
 obtain ⟨b0, off, cap, ro, row, ye, hb, hbn, r0⟩ := hy.at (i := 0) (by simp)
 obtain ⟨b1, off1, cap1, ro1, row1, ye1, hb1, hbn1, r1⟩ := hy.at (i := 1) (by simp)
 rw [ye] at ye1
 cases ye1
 rw [hb] at hb1
 cases hb1
 rw [show opStr 16 = .str 3 6581857 from rfl, ye]
 rw [List.getElem_cons_zero, Nat.add_zero] at r0
 rw [List.getElem_cons_succ, List.getElem_cons_zero] at r1
 rw [show [a, b].length = 2 from rfl]
 by_cases h0 : a = 1
 ·subst h0
  simp -implicitDefEqProofs (disch := omega) only [go_sem, hb, r0, r1, strEq_at]
  refine thenN_call ⟨_, _, truth72_call U _ _, ?_⟩
  simp -implicitDefEqProofs (disch := omega) only [go_sem]; first | rfl | exact ⟨rfl, rfl⟩
 ·have e : refF 16 a b = truthN false := by unfold refF; rw [if_neg (by decide), if_neg (by decide), if_neg (by decide), if_neg (by decide), if_neg (by decide), if_neg (by decide), if_neg (by decide), if_neg (by decide), if_pos rfl, decide_eq_false h0]; rfl
  rw [e]
  simp -implicitDefEqProofs (disch := omega) only [go_sem, hb, r0, r1, strEq_at]
  refine thenN_call ⟨_, _, truth72_call U _ _, ?_⟩
  simp -implicitDefEqProofs (disch := omega) only [go_sem]
set_option maxHeartbeats 1000000 in
theorem refop_17 (U : Usual nat) {η : HN} {y : AV} {a b : Nat} (ha : a < 18446744073709551616) (hbl : b < 18446744073709551616) (hy : RdI .i64 η y [a, b]) : ∃ v η', CallN Try.prog nat 40 [opStr 17, y] η v η' ∧ v = .int .i64 (refF 17 a b) ∧ η' = η := by
 refine call_of (PT := pl40) Try.func40 rfl (U 40 (by decide)) ok40 rfl ?_
 obtain ⟨b0, off, cap, ro, row, ye, hb, hbn, r0⟩ := hy.at (i := 0) (by simp)
 obtain ⟨b1, off1, cap1, ro1, row1, ye1, hb1, hbn1, r1⟩ := hy.at (i := 1) (by simp)
 rw [ye] at ye1
 cases ye1
 rw [hb] at hb1
 cases hb1
 rw [show opStr 17 = .str 2 29295 from rfl, ye]
 rw [List.getElem_cons_zero, Nat.add_zero] at r0
 rw [List.getElem_cons_succ, List.getElem_cons_zero] at r1
 rw [show [a, b].length = 2 from rfl]
 by_cases h0 : a = 1
 ·subst h0
  simp -implicitDefEqProofs (disch := omega) only [go_sem, hb, r0, r1, strEq_at]
  refine thenN_call ⟨_, _, truth72_call U _ _, ?_⟩
  simp -implicitDefEqProofs (disch := omega) only [go_sem]; first | rfl | exact ⟨rfl, rfl⟩
 ·have e : refF 17 a b = truthN (decide (b = 1)) := by unfold refF; rw [if_neg (by decide), if_neg (by decide), if_neg (by decide), if_neg (by decide), if_neg (by decide), if_neg (by decide), if_neg (by decide), if_neg (by decide), if_neg (by decide), if_pos rfl, decide_eq_false h0]; rfl
  rw [e]
  simp -implicitDefEqProofs (disch := omega) only [go_sem, hb, r0, r1, strEq_at]
  refine thenN_call ⟨_, _, truth72_call U _ _, ?_⟩
  simp -implicitDefEqProofs (disch := omega) only [go_sem]
set_option maxHeartbeats 1000000 in
theorem refop_18 (U : Usual nat) {η : HN} {y : AV} {a b : Nat} (ha : a < 18446744073709551616) (hbl : b < 18446744073709551616) (hy : RdI .i64 η y [a, b]) : ∃ v η', CallN Try.prog nat 40 [opStr 18, y] η v η' ∧ v = .int .i64 (refF 18 a b) ∧ η' = η := by
 refine call_of (PT := pl40) Try.func40 rfl (U 40 (by decide)) ok40 rfl ?_
 obtain ⟨b0, off, cap, ro, row, ye, hb, hbn, r0⟩ := hy.at (i := 0) (by simp)
 obtain ⟨b1, off1, cap1, ro1, row1, ye1, hb1, hbn1, r1⟩ := hy.at (i := 1) (by simp)
 rw [ye] at ye1
 cases ye1
 rw [hb] at hb1
 cases hb1
 rw [show opStr 18 = .str 3 7499640 from rfl, ye]
 rw [List.getElem_cons_zero, Nat.add_zero] at r0
 rw [List.getElem_cons_succ, List.getElem_cons_zero] at r1
 rw [show [a, b].length = 2 from rfl]
 simp -implicitDefEqProofs (disch := omega) only [go_sem, hb, r0, r1, strEq_at]
 refine thenN_call ⟨_, _, truth72_call U _ _, ?_⟩
 simp -implicitDefEqProofs (disch := omega) only [go_sem]; first | rfl | exact ⟨rfl, rfl⟩
theorem refop_call (U : Usual nat) {η : HN} {y : AV} {op a b : Nat} (hop : 8 ≤ op ∧ op ≤ 18) (ha : a < 18446744073709551616) (hb : b < 18446744073709551616) (hy : RdI .i64 η y [a, b]) : CallN Try.prog nat 40 [opStr op, y] η (.int .i64 (refF op a b)) η := by
 have : ∃ v η', CallN Try.prog nat 40 [opStr op, y] η v η' ∧ v = .int .i64 (refF op a b) ∧ η' = η := by
  have : op = 8 ∨ op = 9 ∨ op = 10 ∨ op = 11 ∨ op = 12 ∨ op = 13 ∨ op = 14 ∨ op = 15 ∨ op = 16 ∨ op = 17 ∨ op = 18 := by omega
  rcases this with rfl | rfl | rfl | rfl | rfl | rfl | rfl | rfl | rfl | rfl | rfl
  ·exact refop_8 U ha hb hy
  ·exact refop_9 U ha hb hy
  ·exact refop_10 U ha hb hy
  ·exact refop_11 U ha hb hy
  ·exact refop_12 U ha hb hy
  ·exact refop_13 U ha hb hy
  ·exact refop_14 U ha hb hy
  ·exact refop_15 U ha hb hy
  ·exact refop_16 U ha hb hy
  ·exact refop_17 U ha hb hy
  ·exact refop_18 U ha hb hy
 obtain ⟨v, η', k, rfl, rfl⟩ := this
 exact k
end Go.Proofs.Ytjljolnhmmbkoaa
namespace Go.Proofs.Ytjljolnhmmbkoaa
open Go.Eng Go.Plain
set_option autoImplicit false
set_option maxRecDepth 100000
variable {nat : ∀ [Deep], Nats}
structure Rw (η : HN) (a : AV × List Nat) : Prop where
 rd : RdI .i64 η a.1 a.2
 len : a.2.length ≤ 9223372036854775807
 lt : ∀ n ∈ a.2, n < 18446744073709551616
def RowsAt (η : HN) (y : AV) (rs : List (AV × List Nat)) : Prop := RdR 1 η y (rs.map fun a => [a.1]) ∧ ∀ a ∈ rs, Rw η a
theorem RowsAt.ext {η η' : HN} {y : AV} {rs : List (AV × List Nat)} (h : RowsAt η y rs) (e : ExtB η.nx η η') : RowsAt η' y rs := ⟨RdR.ext (base := η.nx) h.1 e, fun a ha => ⟨rdI_ext (h.2 a ha).rd e, (h.2 a ha).len, (h.2 a ha).lt⟩⟩
theorem RowsAt.len {η : HN} {y : AV} {rs : List (AV × List Nat)} (h : RowsAt η y rs) (hl : rs.length ≤ 9223372036854775807) : ∀ e y' η', lenN (.slice e 1 y') y η' = .ok (.int .i64 rs.length) η' := fun e y' η' => by
 have := RdR.len (e := e) (y' := y') (η' := η') h.1 (by simpa using hl)
 simpa using this
theorem RowsAt.at {η : HN} {y : AV} {rs : List (AV × List Nat)} (h : RowsAt η y rs) {i : Nat} (hi : i < rs.length) : ∃ b off cap ro row, y = .slice b off rs.length cap ∧ η.f b = .live ro row ∧ b < η.nx ∧ row[off + i]? = some rs[i].1 := by
 obtain ⟨b, off, cap, ro, row, h1, h2, h3, h4, h5⟩ := RdR.at (i := i) h.1 (by simpa using hi)
 simp only [List.length_map, List.getElem_map, Nat.mul_one] at h1 h5
 refine ⟨b, off, cap, ro, row, h1, h2, h3, ?_⟩
 have := congrArg (fun l : List AV => l[0]?) h5
 simp only [List.getElem?_take, List.getElem?_drop] at this
 simpa using this
set_option maxHeartbeats 1000000 in
theorem great30_then (U : Usual nat) {η : HN} {z : PV} {p : PD} {Q : AV → HN → Prop} (hp : IsP η z p) (hr : Resd p) (h : ∀ η', ExtB η.nx η η' → Q (.bool (greatF p)) η') : ∃ v η', CallN Try.prog nat 30 [.agg z.cells] η v η' ∧ Q v η' := by
 refine call_of (PT := pl30) Try.func30 rfl (U 30 (by decide)) ok30 rfl ?_
 have l1 := rdI_len9 hp.ins hr.ins.1
 have l2 := rdI_len9 hp.outs hr.outs.1
 have l3 := rdI_len9 hp.slots hr.slots.1
 have l4 := rdI_len9 hp.mems hr.mems.1
 have l5 := rdI_len9 hp.consts hr.consts.1
 have l6 := rdC_len9 hp.code hr.code.1
 have b1 := hr.ins.1
 have b2 := hr.outs.1
 have b3 := hr.slots.1
 have b4 := hr.mems.1
 have b5 := hr.consts.1
 have b6 := hr.code.1
 have := h _ (extN (y := .live false z.cells) (.refl _ _))
 clear h
 unfold greatF at this
 by_cases s1 : 70 < p.ins.length
 ·rw [decide_eq_true (by omega)] at this
  simp -implicitDefEqProofs (disch := omega) only [go_sem, l1, l2, l3, l4, l5, l6]
  exact this
 by_cases s2 : 70 < p.outs.length
 ·rw [decide_eq_true (by omega)] at this
  simp -implicitDefEqProofs (disch := omega) only [go_sem, l1, l2, l3, l4, l5, l6]
  exact this
 by_cases s3 : 200 < p.slots.length
 ·rw [decide_eq_true (by omega)] at this
  simp -implicitDefEqProofs (disch := omega) only [go_sem, l1, l2, l3, l4, l5, l6]
  exact this
 by_cases s4 : 100 < p.mems.length
 ·rw [decide_eq_true (by omega)] at this
  simp -implicitDefEqProofs (disch := omega) only [go_sem, l1, l2, l3, l4, l5, l6]
  exact this
 by_cases s5 : 100 < p.consts.length
 ·rw [decide_eq_true (by omega)] at this
  simp -implicitDefEqProofs (disch := omega) only [go_sem, l1, l2, l3, l4, l5, l6]
  exact this
 by_cases s6 : 400 < p.code.length
 ·rw [decide_eq_true (by omega)] at this
  simp -implicitDefEqProofs (disch := omega) only [go_sem, l1, l2, l3, l4, l5, l6]
  exact this
 rw [decide_eq_false (by omega)] at this
 simp -implicitDefEqProofs (disch := omega) only [go_sem, l1, l2, l3, l4, l5, l6]
 exact this
def heavyF (rs : List (AV × List Nat)) : Bool := decide (40 < rs.length) || rs.any fun a => decide (70 < a.2.length)
def HeI (y : AV) (rs : List (AV × List Nat)) (η0 : HN) (m : Nat) (φ : FN) (η : HN) : Prop := η = η0 ∧ ∃ i, m = rs.length - i ∧ i ≤ rs.length ∧ φ 0 = y ∧ φ 3 = .int .i64 i ∧ ∀ j (h : j < rs.length), j < i → rs[j].2.length ≤ 70
theorem heavy_call (U : Usual nat) {η : HN} {y : AV} {rs : List (AV × List Nat)} (hy : RowsAt η y rs) (hl : rs.length ≤ 9223372036854775807) : CallN Try.prog nat 31 [y] η (.bool (heavyF rs)) η := by
 have : ∃ v η', CallN Try.prog nat 31 [y] η v η' ∧ v = .bool (heavyF rs) ∧ η' = η := by
  refine call_of (PT := pl31) Try.func31 rfl (U 31 (by decide)) ok31 rfl ?_
  have l1 := hy.len hl
  by_cases h40 : 40 < rs.length
  ·have e : heavyF rs = true := by unfold heavyF; rw [decide_eq_true h40]; rfl
   rw [e]
   simp -implicitDefEqProofs (disch := omega) only [go_sem, l1]
  ·simp -implicitDefEqProofs (disch := omega) only [go_sem, l1]
   refine wpN_loop (HeI y rs η) rs.length ⟨rfl, 0, rfl, Nat.zero_le _, rfl, rfl, fun j _ h => absurd h (Nat.not_lt_zero j)⟩ ?_
   rintro m φ η1 ⟨rfl, i, hm, hi, p0, p3, hall⟩
   by_cases hlt : i < rs.length
   ·obtain ⟨b, off, cap, ro, row, ye, hb, hbn, hr⟩ := hy.at hlt
    have R := hy.2 _ (List.getElem_mem hlt)
    have l2 := rdI_len9 R.rd R.len
    rw [ye] at p0
    by_cases h70 : 70 < rs[i].2.length
    ·have e : heavyF rs = true := by
      unfold heavyF
      rw [Bool.or_eq_true, List.any_eq_true]
      exact .inr ⟨_, List.getElem_mem hlt, decide_eq_true h70⟩
     have hl2 := R.len
     rw [e]
     simp -implicitDefEqProofs (disch := omega) only [go_sem, p0, p3, hb, hr, l2]
    ·simp -implicitDefEqProofs (disch := omega) only [go_sem, p0, p3, hb, hr, l2]
     exact ⟨_, by omega, rfl, i + 1, rfl, by omega, ye ▸ p0, rfl, fun j hj h => by
      by_cases hji : j = i
      ·subst hji; omega
      ·exact hall j hj (by omega)⟩
   ·have e : heavyF rs = false := by
     unfold heavyF
     rw [decide_eq_false h40, Bool.false_or, List.any_eq_false]
     intro a ha
     obtain ⟨j, hj, rfl⟩ := List.getElem_of_mem ha
     have := hall j hj (by omega)
     rw [decide_eq_true_eq]; omega
    rw [e]
    simp -implicitDefEqProofs (disch := omega) only [go_sem, p0, p3, l1]
 obtain ⟨v, η', k, rfl, rfl⟩ := this
 exact k
def SmI (y z : AV) (a b : List Nat) (η0 : HN) (m : Nat) (φ : FN) (η : HN) : Prop := η = η0 ∧ ∃ i, m = a.length - i ∧ i ≤ a.length ∧ φ 0 = y ∧ φ 1 = z ∧ φ 5 = .int .i64 i ∧ ∀ j, j < i → a[j]? = b[j]?
theorem same_call (U : Usual nat) {η : HN} {y z : AV} {a b : List Nat} (hy : RdI .i64 η y a) (hz : RdI .i64 η z b) (ha : a.length ≤ 9223372036854775807) (hb : b.length ≤ 9223372036854775807) : CallN Try.prog nat 34 [y, z] η (.bool (decide (a = b))) η := by
 have : ∃ v η', CallN Try.prog nat 34 [y, z] η v η' ∧ v = .bool (decide (a = b)) ∧ η' = η := by
  refine call_of (PT := pl34) Try.func34 rfl (U 34 (by decide)) ok34 rfl ?_
  have l1 := rdI_len9 hy ha
  have l2 := rdI_len9 hz hb
  by_cases hl : a.length = b.length
  ·simp -implicitDefEqProofs (disch := omega) only [go_sem, l1, l2]
   refine wpN_loop (SmI y z a b η) a.length ⟨rfl, 0, rfl, Nat.zero_le _, rfl, rfl, rfl, fun j h => absurd h (Nat.not_lt_zero j)⟩ ?_
   rintro m φ η1 ⟨rfl, i, hm, hi, p0, p1, p5, hall⟩
   by_cases hlt : i < a.length
   ·obtain ⟨b1, off, cap, ro, row, ye, hb1, hbn, hr⟩ := hy.at hlt
    obtain ⟨b2, off2, cap2, ro2, row2, ze, hb2, hbn2, hr2⟩ := hz.at (show i < b.length by omega)
    rw [ye] at p0
    rw [ze] at p1
    by_cases he : a[i] = b[i]'(by omega)
    ·simp -implicitDefEqProofs (disch := omega) only [go_sem, p0, p1, p5, hb1, hr, hb2, hr2, he]
     exact ⟨_, by omega, rfl, i + 1, rfl, by omega, ye ▸ p0, ze ▸ p1, rfl, fun j hj => by
      by_cases hji : j = i
      ·subst hji; rw [List.getElem?_eq_getElem hlt, List.getElem?_eq_getElem (by omega), he]
      ·exact hall j (by omega)⟩
    ·have e : decide (a = b) = false := decide_eq_false fun h => he (by subst h; rfl)
     rw [e]
     simp -implicitDefEqProofs (disch := omega) only [go_sem, p0, p1, p5, hb1, hr, hb2, hr2]
   ·have e : decide (a = b) = true := decide_eq_true (List.ext_getElem? fun j => by
     by_cases hj : j < a.length
     ·exact hall j (by omega)
     ·rw [List.getElem?_eq_none (by omega), List.getElem?_eq_none (by omega)])
    rw [e]
    simp -implicitDefEqProofs (disch := omega) only [go_sem, p0, p1, p5, l1]
  ·have e : decide (a = b) = false := decide_eq_false fun h => hl (by rw [h])
   rw [e]
   simp -implicitDefEqProofs (disch := omega) only [go_sem, l1, l2]
 obtain ⟨v, η', k, rfl, rfl⟩ := this
 exact k
theorem setsL_step {l r : List AV} {i : Nat} {a : AV} : setsL l i (a :: r) = setsL (l.set i a) (i + 1) r := rfl
abbrev Wakes (nat : ∀ [Deep], Nats) : Prop := ∀ η, CallN Try.prog nat 22 [] η (.bool true) η
end Go.Proofs.Ytjljolnhmmbkoaa
namespace Go.Eng
open Go.ChangeShapes Go.WideShapes
set_option autoImplicit false
theorem lay_slice {H : Type} {enc : TypeId × Value → H} {P : Program} {w : World} {t e : TypeId} {v : Value} {d : DataW H} {p : List MemPlace} {base : Nat} (m : Nat) (hp : plainTy P m t = true) (ht : P.underlying t = some (.slice e)) (hv : Value.okWide P w .any base t v) (h : DataW.Trod enc P w 0 (fun _ => true) true t v d p) :
  LayC P w [v] fun η z => RepT P η m t z d := by
 obtain ⟨a, len, cap, rfl⟩ := okWide_slice ht hv
 exact lay_cell m hp rfl h
end Go.Eng
namespace Go.Proofs.Ytjljolnhmmbkoaa
open Go.Eng Go.Plain Go.ChangeShapes Go.WideShapes
set_option autoImplicit false
set_option maxRecDepth 100000
theorem cells48 : Try.prog.cellsOf 48 = 1 := by kernel_rfl
theorem cells5 : Try.prog.cellsOf 5 = 1 := by kernel_rfl
theorem plain52 : plainTy Try.prog 6 52 = true := by kernel_rfl
theorem plain55 : plainTy Try.prog 6 55 = true := by kernel_rfl
section
variable {H : Type} {η : HN}
theorem rep_rows {m : Nat} {cs : List AV} {d : DataW H} (h : RepT Try.prog η (m + 3) 55 cs d) : ∃ y rs, cs = [y] ∧ RowsAt η y rs ∧ rs.length ≤ 9223372036854775807 := by
 obtain ⟨y, l, e1, e2, e3⟩ := rep_slice (α := { a : AV × List Nat // Rw η a }) (fun a => [a.1.1]) Try.underlying55 h (fun a => by rw [cells48]; rfl) fun z x hx => by
  obtain ⟨y, r, e, r1, r2, r3⟩ := rep_ints (m := m) Try.underlying48 Try.underlying2 cells2 hx
  exact ⟨⟨(y, r), r1, r2, r3⟩, e⟩
 rw [cells48] at e2
 refine ⟨y, l.map (·.1), e1, ⟨?_, fun a ha => ?_⟩, by rw [List.length_map]; unfold maxLen at e3; omega⟩
 ·rw [List.map_map]; exact e2
 ·obtain ⟨b, _, rfl⟩ := List.mem_map.1 ha; exact b.2
theorem rep_bytes {m : Nat} {cs : List AV} {d : DataW H} (h : RepT Try.prog η (m + 2) 52 cs d) : ∃ y l, cs = [y] ∧ RdA 1 η y l.length (u8s l) ∧ l.length ≤ 9223372036854775807 ∧ ∀ n ∈ l, n < 256 := by
 obtain ⟨y, l, e1, e2, e3⟩ := rep_slice (α := { n : Nat // n < 256 }) (fun a => [.int .u8 a.1]) Try.underlying52 h (fun a => by rw [cells5]; rfl) fun z x hx => by
  rw [RepT, Try.underlying5] at hx
  obtain ⟨n, rfl, _⟩ := hx
  exact ⟨⟨_, @res_lt ⟨0, 0⟩ noEnv .u8 n⟩, rfl⟩
 rw [cells5] at e2
 have e2 : RdI .u8 η y (l.map (·.1)) := by unfold RdI; rw [List.map_map]; exact e2
 refine ⟨y, l.map (·.1), e1, RdI.toA e2, by rw [List.length_map]; unfold maxLen at e3; omega, fun n hn => by obtain ⟨a, _, rfl⟩ := List.mem_map.1 hn; exact a.2⟩
end
end Go.Proofs.Ytjljolnhmmbkoaa
namespace Go.Proofs.Ytjljolnhmmbkoaa
open Go.Eng Go.Plain
set_option autoImplicit false
set_option maxRecDepth 100000
variable {nat : ∀ [Deep], Nats}
noncomputable def goS (p : PD) (s : List Nat × Nat) (r : List Nat) : List Nat × Nat := if fitF p.ins r then ((stepM p s.1 r).mems, s.2 + 1) else s
noncomputable def outS (p : PD) (ms r : List Nat) : List Nat := if fitF p.ins r then (stepM p ms r).outs else []
def errS (p : PD) (r : List Nat) : Nat := if fitF p.ins r then 0 else 1
def RowO (base : Nat) (η : HN) (y : AV) (l : List Nat) : Prop := (y = .nilslice ∧ l = []) ∨ OutAt base η y l
theorem RowO.rd {base : Nat} {η : HN} {y : AV} {l : List Nat} (h : RowO base η y l) : RdI .i64 η y l := by
 rcases h with ⟨rfl, rfl⟩ | h
 ·exact .inl ⟨rfl, .inl rfl⟩
 ·exact h.rd
theorem RowO.keep {base : Nat} {η η' : HN} {y : AV} {l : List Nat} (h : RowO base η y l) (hn : η.nx ≤ η'.nx) (hk : ∀ b, base ≤ b → b < η.nx → η'.f b = η.f b) : RowO base η' y l := h.imp id fun h => h.keep hn hk
theorem outS_len {p : PD} {ms r : List Nat} (hf : Fine p) (hm : ms.length = p.mems.length ∧ ∀ n ∈ ms, n < 18446744073709551616) (hlt : ∀ n ∈ r, n < 18446744073709551616) : (outS p ms r).length ≤ 9223372036854775807 := by
 unfold outS
 split
 ·rename_i h
  have hl : r.length = p.ins.length := by unfold fitF at h; exact (of_decide_eq_true (Bool.and_eq_true_iff.1 h).1).symm
  have := (stepM_ok hf hm (inn := r) ⟨hl, hlt⟩).outs.1
  have := hf.outs.1
  omega
 ·simp
theorem step_go (U : Usual nat) {η : HN} {lo hi mp mb ticks : Nat} {z : PV} {p : PD} {ms inn : List Nat} {yi : AV} {Q : AV → HN → Prop} (M : MachAt lo hi η mp mb z p ms ticks) (hf : Fine p) (hc : (checkF p).2 = 0) (hy : Stays η mp mb yi inn) (hin : inn.length ≤ 9223372036854775807 ∧ ∀ n ∈ inn, n < 18446744073709551616) (ht : ticks < 9223372036854775807)
  (h : ∀ x η', MachAt lo hi η' mp mb z p (goS p (ms, ticks) inn).1 (goS p (ms, ticks) inn).2 → RowO η.nx η' x (outS p ms inn) → η.nx ≤ η'.nx → (∀ b, b < η.nx → b ≠ mp → b ≠ mb → η'.f b = η.f b) → Q (.tup [x, .int .i64 (errS p inn)]) η') :
  ∃ v η', CallN Try.prog nat 25 [.ptr mp 0, yi] η v η' ∧ Q v η' := by
 unfold goS outS errS at h
 refine step_then U M hf hc hy hin ht (fun hno => ?_) fun hyes yo η' M' O n k => ?_
 ·rw [hno] at h
  exact h _ _ M (.inl ⟨rfl, rfl⟩) (Nat.le_refl _) fun _ _ _ _ => rfl
 ·rw [hyes] at h
  exact h _ _ M' (.inr O) n k
theorem goS_t {p : PD} {s : List Nat × Nat} {r : List Nat} : (goS p s r).2 ≤ s.2 + 1 := by unfold goS; split <;> (first | exact Nat.le_refl _ | exact Nat.le_succ _)
noncomputable def runS (p : PD) (s : List Nat × Nat) (A : List (AV × List Nat)) (i : Nat) : List Nat × Nat := (A.take i).foldl (fun s a => goS p s a.2) s
theorem runS_0 {p : PD} {s : List Nat × Nat} {A : List (AV × List Nat)} : runS p s A 0 = s := rfl
theorem runS_s {p : PD} {s : List Nat × Nat} {A : List (AV × List Nat)} {i : Nat} (h : i < A.length) : runS p s A (i + 1) = goS p (runS p s A i) A[i].2 := by
 unfold runS
 rw [← List.take_append_getElem h, List.foldl_append]; rfl
theorem runS_t {p : PD} {s : List Nat × Nat} {A : List (AV × List Nat)} : ∀ i, i ≤ A.length → (runS p s A i).2 ≤ s.2 + i
 | 0, _ => Nat.le_refl _
 | i + 1, h => by
  rw [runS_s (by omega)]
  have := runS_t (p := p) (s := s) (A := A) i (by omega)
  have := @goS_t p (runS p s A i) A[i].2
  omega
theorem Rw.stays {η η1 : HN} {base mp mb : Nat} {a : AV × List Nat} (h : Rw η a) (e : ExtB base η η1) (hb : η.nx ≤ base) (h1 : base ≤ mp) (h2 : base ≤ mb) (hn : base ≤ η1.nx) : Stays η1 mp mb a.1 a.2 := fun η' n k => RdR.ext (base := η.nx) h.rd ⟨Nat.le_trans e.1 n, fun b hb2 => (k b (by omega) (by omega) (by omega)).trans (e.2 b (by omega))⟩
theorem eq43_nil : (eqB Try.prog 43).f .nilptr .nilptr = some true := by kernel_rfl
theorem good43 (b : Bool) : goodEq Try.prog 43 b = true := by cases b <;> kernel_rfl
theorem strEq_rfl (n v : Nat) : strEq n v n v = true := by rw [strEq_at, decide_eq_true rfl, decide_eq_true rfl]; rfl
theorem stateB_ne (t : Nat) (l : List Nat) : stateB t l ≠ [] := fun h => by
 have := congrArg List.length h
 have h1 := uv_len t
 unfold stateB at this
 rw [List.length_append, List.length_append, List.length_nil] at this
 omega
theorem state_str {η : HN} {v : AV} {t : Nat} {l : List Nat} (h : RdA 1 η v (stateB t l).length (u8s (stateB t l))) : cvN' Try.prog (.slice 5 1 1) .str v η = .ok (.str (stateB t l).length (bV (stateB t l))) η := str_of h (stateB_ne t l) (by rfl)
end Go.Proofs.Ytjljolnhmmbkoaa
