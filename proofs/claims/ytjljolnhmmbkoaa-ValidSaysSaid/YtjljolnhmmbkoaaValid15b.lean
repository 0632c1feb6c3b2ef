/- What is proved: what rule 2 tells of an instruction; rows of places that change behind. Conditions: none. -/
import Derived.Test.YtjljolnhmmbkoaaValid15
set_option linter.unusedVariables false
set_option linter.unusedSimpArgs false
set_option linter.unusedSectionVars false
namespace Go.Plain
open Go.Eng
theorem there_facts {p : PD} {pc : Nat} {i : Ins} (h : thereF p pc i = true) : i.op ≤ 20 ∧ (∀ n ∈ readsF i, n < p.slots.length) ∧ (i.op ≠ 3 → i.op ≠ 5 → i.op ≤ 18 → i.a < p.slots.length) ∧ (i.op = 5 → i.a < p.outs.length) ∧ (i.op = 19 ∨ i.op = 20 → pc < i.a ∧ i.a ≤ p.code.length) := by
  obtain ⟨op, a, b, c⟩ := i
  unfold thereF at h
  unfold readsF
  dsimp only at h ⊢
  unfold targetF has at h
  by_cases h0 : op = 0
  · subst h0; simp at h ⊢; omega
  by_cases h1 : op = 1
  · subst h1; simp at h ⊢; omega
  by_cases h2 : op = 2
  · subst h2; simp at h ⊢; omega
  by_cases h3 : op = 3
  · subst h3; simp at h ⊢; omega
  by_cases h4 : op = 4
  · subst h4; simp at h ⊢; omega
  by_cases h5 : op = 5
  · subst h5; simp at h ⊢; omega
  by_cases h6 : op = 6
  · subst h6; simp at h ⊢; omega
  by_cases h7 : op = 7
  · subst h7; simp at h ⊢; omega
  by_cases h19 : op = 19
  · subst h19; simp at h ⊢; omega
  by_cases h20 : op = 20
  · subst h20; simp at h ⊢; omega
  rw [if_neg h0, if_neg (by omega), if_neg h2, if_neg h3, if_neg h4, if_neg h5, if_neg h19, if_neg h20] at h
  simp only [Bool.and_eq_true, decide_eq_true_eq] at h
  rw [if_neg (by omega), if_pos (by omega)]
  refine ⟨by omega, ?_, fun _ _ _ => h.2.1, fun e => absurd e h5, fun e => by omega⟩
  intro n hn
  simp at hn
  rcases hn with rfl | rfl
  · exact h.2.2.1
  · exact h.2.2.2
theorem readsF_len (i : Ins) : (readsF i).length ≤ 1099511627776 := by
  unfold readsF
  by_cases h : i.op = 0 ∨ i.op = 2 ∨ i.op = 4 ∨ i.op = 20
  · rw [if_pos h]; simp
  · rw [if_neg h]
    by_cases k : 8 ≤ i.op ∧ i.op ≤ 18
    · rw [if_pos k]; simp
    · rw [if_neg k]; simp
theorem first_none {f : Nat → Ins → Bool} : ∀ {l : List Ins} {k : Nat}, firstF f l k = none → ∀ j (h : j < l.length), f (k + j) l[j] = true
  | [], _, _, j, h => absurd h (Nat.not_lt_zero j)
  | i :: l, k, e, j, h => by
    unfold firstF at e
    cases hf : f k i with
    | false => rw [hf] at e; simp at e
    | true =>
      rw [hf, if_pos rfl] at e
      cases j with
      | zero => exact hf
      | succ j =>
        have := first_none e j (by simpa using h)
        rw [show k + (j + 1) = k + 1 + j by omega]
        exact this
end Go.Plain
namespace Go.Proofs.Ytjljolnhmmbkoaa
open Go.Eng Go.Plain
set_option autoImplicit false
theorem Places.behind {η : HN} {T : Nat → Nat} {B bl n lo S O : Nat} {st : Nat → St} (h : Places η T B bl n lo st S O) {row row' : List AV} (hr : η.f bl = .live false row) (hl : row'.length = row.length) (he : ∀ i, lo * 3 ≤ i → row'[i]? = row[i]?) : Places (η.put bl (.live false row')) T B bl n lo st S O := by
  obtain ⟨row0, h1, h2, h3⟩ := h.row
  rw [hr] at h1
  cases h1
  have hbl := h.bl
  have hne : ∀ b, b ≠ bl → (η.put bl (.live false row')).f b = η.f b := fun b hb => by show (if b = bl then _ else _) = _; rw [if_neg hb]
  refine ⟨⟨row', by show (if bl = bl then _ else _) = _; rw [if_pos rfl], hl.trans h2, fun q a b => (h3 q a b).of (fun i _ => he _ (by omega)) (Nat.le_refl _) (fun _ _ => rfl) fun x _ ht => hne x fun e => by rw [e, hbl.2.2] at ht; omega⟩, h.len, hbl, h.fresh⟩
theorem Kp.row {T : Nat → Nat} {bl : Nat} {η : HN} {y : BN} : Kp T bl η (η.put bl y) T := ⟨Nat.le_refl _, fun _ _ => rfl, fun b _ _ hb => by show (if b = bl then _ else _) = _; rw [if_neg hb]⟩
end Go.Proofs.Ytjljolnhmmbkoaa
