/- What is proved: what IndexFunc and ContainsFunc do over ints, the predicate told. Conditions: none. -/
import Derived.Test.YtjljolnhmmbkoaaValid5
import Derived.Test.YtjljolnhmmbkoaaPlain1
set_option linter.unusedVariables false
set_option linter.unusedSimpArgs false
set_option linter.unusedSectionVars false
namespace Go.Proofs.Ytjljolnhmmbkoaa
open Go.Eng Go.Plain
set_option autoImplicit false
set_option maxRecDepth 100000
variable {nat : ∀ [Deep], Nats}
/-- all functions but the known ones are walked -/
def Usual (nat : ∀ [Deep], Nats) : Prop := ∀ f : Nat, f ∉ [16, 22, 66, 67] → ∀ [Deep], nat f = none
/-- the first of which it holds -/
def firstN (q : Nat → Bool) : List Nat → Nat → Nat
  | [], _ => 18446744073709551615
  | x :: r, i => if q x then i else firstN q r (i + 1)
theorem firstN_skip {q : Nat → Bool} : ∀ (l : List Nat) (i j : Nat), (∀ x ∈ l.take i, q x = false) → i ≤ l.length → firstN q l j = firstN q (l.drop i) (j + i)
  | l, 0, j, _, _ => rfl
  | [], i + 1, j, _, h => by simp at h
  | x :: l, i + 1, j, hq, h => by
    rw [List.drop_succ_cons, firstN, hq x (by simp), if_neg (by decide), firstN_skip l i (j + 1) (fun y hy => hq y (by rw [List.take_succ_cons]; exact List.mem_cons_of_mem _ hy)) (by simpa using h)]
    congr 1; omega
theorem firstN_any {q : Nat → Bool} : ∀ (l : List Nat) (i : Nat), i + l.length ≤ 9223372036854775807 → (firstN q l i < 9223372036854775808 ↔ l.any q = true) ∧ firstN q l i < 18446744073709551616
  | [], i, h => by simp [firstN]
  | x :: l, i, h => by
    rw [List.length_cons] at h
    unfold firstN
    cases hx : q x with
    | true => simp [hx]; omega
    | false => simpa [hx] using firstN_any l (i + 1) (by omega)
def indI (y fv : AV) (l : List Nat) (q : Nat → Bool) (η0 : HN) (m : Nat) (φ : FN) (η : HN) : Prop := η = η0 ∧ ∃ i, m = l.length - i ∧ i ≤ l.length ∧ φ 0 = y ∧ φ 1 = fv ∧ φ 7 = .int .i64 l.length ∧ φ 8 = .int .i64 i ∧ ∀ x ∈ l.take i, q x = false
theorem take_succ_all {q : Nat → Bool} {l : List Nat} {i : Nat} (h : ∀ x ∈ l.take i, q x = false) (hi : i < l.length) (hx : q l[i] = false) : ∀ x ∈ l.take (i + 1), q x = false := by
  intro x hx'
  rw [List.take_succ_eq_append_getElem hi, List.mem_append, List.mem_singleton] at hx'
  rcases hx' with h1 | rfl
  · exact h x h1
  · exact hx
theorem index_spec (U : Usual nat) (η : HN) (y : AV) (l : List Nat) (q : Nat → Bool) (f : Nat) (caps : List AV) (hy : RdI .i64 η y l) (hl : l.length ≤ 1099511627776) (hq : ∀ n ∈ l, CallN Try.prog nat f (.int .i64 n :: caps) η (.bool (q n)) η) :
    ∃ v η', CallN Try.prog nat 100 [y, .func f [] caps] η v η' ∧ v = .int .i64 (firstN q l 0) ∧ η' = η := by
  refine call_of (PT := pl100) Try.func100 rfl (U 100 (by decide)) ok100 rfl ?_
  have hyl : ∀ η', lenN (.slice 23 1 8) y η' = .ok (.int .i64 l.length) η' := fun η' => by have := RdR.len (e := 23) (y' := 8) (η' := η') hy (by simp; omega); simpa using this
  simp -implicitDefEqProofs (disch := omega) only [go_sem, hyl]
  refine wpN_loop (indI y (.func f [] caps) l q η) l.length ⟨rfl, 0, by omega, by omega, rfl, rfl, rfl, rfl, by simp⟩ ?_
  rintro m φ η' ⟨rfl, i, hm, hi, h0, h1, h7, h8, hx⟩
  by_cases hlt : i < l.length
  · obtain ⟨b, off, cap, ro, row, rfl, hb, hnb, hr⟩ := hy.at hlt
    simp -implicitDefEqProofs (disch := omega) only [go_sem, h0, h1, h7, h8, hb, hr]
    refine thenN_call ⟨_, _, hq _ (List.getElem_mem hlt), ?_⟩
    cases hqx : q l[i] with
    | true =>
      simp -implicitDefEqProofs (disch := omega) only [go_sem, h0, h1, h7, h8, hb, hr]
      rw [firstN_skip l i 0 hx hi, List.drop_eq_getElem_cons hlt, firstN, hqx, if_pos rfl, Nat.zero_add]
    | false =>
      simp -implicitDefEqProofs (disch := omega) only [go_sem, h0, h1, h7, h8, hb, hr]
      exact ⟨l.length - (i + 1), by omega, rfl, i + 1, rfl, by omega, h0, h1, h7, rfl, take_succ_all hx hlt hqx⟩
  · obtain rfl : i = l.length := by omega
    simp -implicitDefEqProofs (disch := omega) only [go_sem, h0, h1, h7, h8]
    rw [firstN_skip l l.length 0 hx (Nat.le_refl _), List.drop_length]; rfl
theorem contains_spec (U : Usual nat) (η : HN) (y : AV) (l : List Nat) (q : Nat → Bool) (f : Nat) (caps : List AV) (hy : RdI .i64 η y l) (hl : l.length ≤ 1099511627776) (hq : ∀ n ∈ l, CallN Try.prog nat f (.int .i64 n :: caps) η (.bool (q n)) η) :
    ∃ v η', CallN Try.prog nat 73 [y, .func f [] caps] η v η' ∧ v = .bool (l.any q) ∧ η' = η := by
  refine call_of (PT := pl73) Try.func73 rfl (U 73 (by decide)) ok73 rfl ?_
  obtain ⟨v, η', k, rfl, rfl⟩ := index_spec U η y l q f caps hy hl hq
  simp -implicitDefEqProofs (disch := omega) only [go_sem]
  refine thenN_call ⟨_, _, k, ?_⟩
  obtain ⟨a1, a2⟩ := firstN_any (q := q) l 0 (by omega)
  cases ha : l.any q with
  | true =>
    have := a1.2 ha
    simp -implicitDefEqProofs (disch := omega) only [go_sem]
  | false =>
    have hn : ltN .i64 (firstN q l 0) 0 = true := ltN_neg (by rw [ha] at a1; simp at a1; omega)
    simp -implicitDefEqProofs (disch := omega) only [go_sem, hn]
theorem index2_spec (U : Usual nat) (η : HN) (y : AV) (l : List Nat) (q : Nat → Bool) (f : Nat) (caps : List AV) (hy : RdI .i64 η y l) (hl : l.length ≤ 1099511627776) (hq : ∀ n ∈ l, CallN Try.prog nat f (.int .i64 n :: caps) η (.bool (q n)) η) :
    ∃ v η', CallN Try.prog nat 101 [y, .func f [] caps] η v η' ∧ v = .int .i64 (firstN q l 0) ∧ η' = η := by
  refine call_of (PT := pl101) Try.func101 rfl (U 101 (by decide)) ok101 rfl ?_
  have hyl : ∀ η', lenN (.slice 3 1 8) y η' = .ok (.int .i64 l.length) η' := fun η' => by have := RdR.len (e := 3) (y' := 8) (η' := η') hy (by simp; omega); simpa using this
  simp -implicitDefEqProofs (disch := omega) only [go_sem, hyl]
  refine wpN_loop (indI y (.func f [] caps) l q η) l.length ⟨rfl, 0, by omega, by omega, rfl, rfl, rfl, rfl, by simp⟩ ?_
  rintro m φ η' ⟨rfl, i, hm, hi, h0, h1, h7, h8, hx⟩
  by_cases hlt : i < l.length
  · obtain ⟨b, off, cap, ro, row, rfl, hb, hnb, hr⟩ := hy.at hlt
    simp -implicitDefEqProofs (disch := omega) only [go_sem, h0, h1, h7, h8, hb, hr]
    refine thenN_call ⟨_, _, hq _ (List.getElem_mem hlt), ?_⟩
    cases hqx : q l[i] with
    | true =>
      simp -implicitDefEqProofs (disch := omega) only [go_sem, h0, h1, h7, h8, hb, hr]
      rw [firstN_skip l i 0 hx hi, List.drop_eq_getElem_cons hlt, firstN, hqx, if_pos rfl, Nat.zero_add]
    | false =>
      simp -implicitDefEqProofs (disch := omega) only [go_sem, h0, h1, h7, h8, hb, hr]
      exact ⟨l.length - (i + 1), by omega, rfl, i + 1, rfl, by omega, h0, h1, h7, rfl, take_succ_all hx hlt hqx⟩
  · obtain rfl : i = l.length := by omega
    simp -implicitDefEqProofs (disch := omega) only [go_sem, h0, h1, h7, h8]
    rw [firstN_skip l l.length 0 hx (Nat.le_refl _), List.drop_length]; rfl
theorem contains2_spec (U : Usual nat) (η : HN) (y : AV) (l : List Nat) (q : Nat → Bool) (f : Nat) (caps : List AV) (hy : RdI .i64 η y l) (hl : l.length ≤ 1099511627776) (hq : ∀ n ∈ l, CallN Try.prog nat f (.int .i64 n :: caps) η (.bool (q n)) η) :
    ∃ v η', CallN Try.prog nat 81 [y, .func f [] caps] η v η' ∧ v = .bool (l.any q) ∧ η' = η := by
  refine call_of (PT := pl81) Try.func81 rfl (U 81 (by decide)) ok81 rfl ?_
  obtain ⟨v, η', k, rfl, rfl⟩ := index2_spec U η y l q f caps hy hl hq
  simp -implicitDefEqProofs (disch := omega) only [go_sem]
  refine thenN_call ⟨_, _, k, ?_⟩
  obtain ⟨a1, a2⟩ := firstN_any (q := q) l 0 (by omega)
  cases ha : l.any q with
  | true =>
    have := a1.2 ha
    simp -implicitDefEqProofs (disch := omega) only [go_sem]
  | false =>
    have hn : ltN .i64 (firstN q l 0) 0 = true := ltN_neg (by rw [ha] at a1; simp at a1; omega)
    simp -implicitDefEqProofs (disch := omega) only [go_sem, hn]
end Go.Proofs.Ytjljolnhmmbkoaa
