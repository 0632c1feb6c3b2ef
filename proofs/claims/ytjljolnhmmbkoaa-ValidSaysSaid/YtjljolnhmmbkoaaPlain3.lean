/- What is proved: programs that may be run, of which it is seen at once. Conditions: none. -/
import Derived.Test.YtjljolnhmmbkoaaPlain2
set_option linter.unusedVariables false
set_option linter.unusedSimpArgs false
set_option linter.unusedSectionVars false
namespace Go.Plain
open Go.Eng
set_option autoImplicit false
theorem follow_good {G : Nat → (List Bool × List Bool) → Prop} (hm : ∀ q x y, G q x → G q y → G q (List.zipWith and x.1 y.1, List.zipWith and x.2 y.2)) : ∀ (l : List Ins) (pc : Nat) (st : Nat → St), (∀ q d, pc ≤ q → st q = some d → G q d) →
    (∀ j (h : j < l.length) d, G (pc + j) d → (readsF l[j]).all (fun n => d.1.getD n false) = true ∧ (l[j].op ≠ 20 → G (pc + j + 1) (doesF l[j] d)) ∧ (l[j].op = 19 ∨ l[j].op = 20 → G l[j].a (doesF l[j] d))) →
    ∃ x, followF l pc st = .inr x ∧ ∀ d, x = some d → G (pc + l.length) d
  | [], pc, st, hs, _ => ⟨st pc, rfl, fun d hd => hs pc d (Nat.le_refl _) hd⟩
  | i :: l, pc, st, hs, hj => by
    have step : ∀ st', (∀ q d, pc + 1 ≤ q → st' q = some d → G q d) → ∃ x, followF l (pc + 1) st' = .inr x ∧ ∀ d, x = some d → G (pc + (i :: l).length) d := fun st' hs' => by
      obtain ⟨x, e, hx⟩ := follow_good hm l (pc + 1) st' hs' fun j h d hd => by
        have := hj (j + 1) (by simpa using h) d (by rw [show pc + (j + 1) = pc + 1 + j by omega]; exact hd)
        rw [show pc + (j + 1) = pc + 1 + j by omega] at this
        exact this
      exact ⟨x, e, fun d hd => by rw [List.length_cons, show pc + (l.length + 1) = pc + 1 + l.length by omega]; exact hx d hd⟩
    unfold followF
    cases hst : st pc with
    | none => exact step st fun q d hq => hs q d (by omega)
    | some d =>
      obtain ⟨h1, h2, h3⟩ := hj 0 (by simp) d (hs pc d (Nat.le_refl _) hst)
      have h1 : (readsF i).all (fun n => d.1.getD n false) = true := h1
      have h2 : i.op ≠ 20 → G (pc + 1) (doesF i d) := h2
      have h3 : i.op = 19 ∨ i.op = 20 → G i.a (doesF i d) := h3
      show ∃ x, (if (readsF i).all (fun n => d.1.getD n false) = true then followF l (pc + 1) (goF i pc st (doesF i d)) else .inl pc) = .inr x ∧ _
      rw [h1, if_pos rfl]
      refine step _ fun q e hq he => ?_
      have hmeet : ∀ (st1 : Nat → St) (a : Nat) (d' : List Bool × List Bool), (∀ q d, pc + 1 ≤ q → st1 q = some d → G q d) → (pc + 1 ≤ a → G a d') → ∀ q d, pc + 1 ≤ q → setF st1 a (meetF (st1 a) d') q = some d → G q d := fun st1 a d' h h' q d hq hd => by
        unfold setF at hd
        by_cases hqa : q = a
        · subst hqa
          rw [if_pos rfl] at hd
          cases hx : st1 q with
          | none => rw [hx] at hd; cases hd; exact h' hq
          | some y => rw [hx] at hd; cases hd; exact hm q y d' (h q y hq hx) (h' hq)
        · rw [if_neg hqa] at hd
          exact h q d hq hd
      have base : ∀ q d, pc + 1 ≤ q → st q = some d → G q d := fun q d hq => hs q d (by omega)
      unfold goF at he
      have s1 : ∀ q d', pc + 1 ≤ q → (if i.op = 19 ∨ i.op = 20 then setF st i.a (meetF (st i.a) (doesF i d)) else st) q = some d' → G q d' := fun q d' hq hd' => by
        by_cases h19 : i.op = 19 ∨ i.op = 20
        · rw [if_pos h19] at hd'
          exact hmeet st i.a _ base (fun _ => h3 h19) q d' hq hd'
        · rw [if_neg h19] at hd'
          exact base q d' hq hd'
      by_cases h20 : i.op = 20
      · rw [if_pos h20] at he
        exact s1 q e hq he
      · rw [if_neg h20] at he
        exact hmeet _ (pc + 1) _ s1 (fun _ => h2 h20) q e hq he
theorem first_all {f : Nat → Ins → Bool} : ∀ (l : List Ins) (k : Nat), (∀ j (h : j < l.length), f (k + j) l[j] = true) → firstF f l k = none
  | [], _, _ => rfl
  | i :: l, k, h => by
    have h0 : f k i = true := h 0 (by simp)
    unfold firstF
    rw [h0, if_pos rfl]
    exact first_all l (k + 1) fun j hj => by have := h (j + 1) (by simpa using hj); rw [show k + (j + 1) = k + 1 + j by omega] at this; exact this
theorem first_at {f : Nat → Ins → Bool} : ∀ (l : List Ins) (k j : Nat) (h : j < l.length), (∀ i (hi : i < l.length), i < j → f (k + i) l[i] = true) → f (k + j) l[j] = false → firstF f l k = some (k + j)
  | i :: l, k, 0, _, _, hf => by have hf : f k i = false := hf; unfold firstF; rw [hf]; rfl
  | i :: l, k, j + 1, h, hb, hf => by
    have h0 : f k i = true := hb 0 (by simp) (by omega)
    unfold firstF
    rw [h0, if_pos rfl, show k + (j + 1) = k + 1 + j by omega]
    refine first_at l (k + 1) j (by simpa using h) (fun a ha hlt => ?_) (by rw [show k + (j + 1) = k + 1 + j by omega] at hf; exact hf)
    have := hb (a + 1) (by simpa using ha) (by omega)
    rw [show k + (a + 1) = k + 1 + a by omega] at this
    exact this
theorem all_rep {n k : Nat} (h : kdOk k = true) : (List.replicate n k).all kdOk = true := by rw [List.all_eq_true]; intro x hx; rw [List.mem_replicate] at hx; rw [hx.2]; exact h
/-! ## So many slots, inputs, instructions -/
def boundsP (s k n : Nat) : PD := ⟨List.replicate k 2, [], List.replicate s 2, List.replicate s 2, [0], (List.range n).map fun i => ⟨20, i + 1, 0, 0⟩⟩
theorem bounds_check (s k n : Nat) : checkF (boundsP s k n) = if s ≤ 1024 ∧ k ≤ 64 ∧ n ≤ 8192 then (0, 0) else (18446744073709551615, 1) := by
  have hp : partsF (boundsP s k n) = decide (s ≤ 1024 ∧ k ≤ 64 ∧ n ≤ 8192) := by
    unfold partsF boundsP
    simp only [List.length_replicate, List.length_map, List.length_range, all_rep (show kdOk 2 = true from rfl), List.all_nil, List.length_cons, List.length_nil, Bool.true_and]
    by_cases h1 : s ≤ 1024 <;> by_cases h2 : k ≤ 64 <;> by_cases h3 : n ≤ 8192 <;> simp [h1, h2, h3]
  have hcode : ∀ j (h : j < (boundsP s k n).code.length), (boundsP s k n).code[j] = ⟨20, j + 1, 0, 0⟩ := fun j h => by simp [boundsP]
  have hlen : (boundsP s k n).code.length = n := by show ((List.range n).map _).length = n; simp
  unfold checkF
  rw [hp]
  by_cases hb : s ≤ 1024 ∧ k ≤ 64 ∧ n ≤ 8192
  · rw [decide_eq_true hb, if_pos rfl, if_pos hb]
    rw [first_all (f := thereF (boundsP s k n)) _ 0 fun j h => by
      rw [hcode j h]
      show targetF _ (0 + j) (j + 1) = true
      unfold targetF
      rw [hlen] at h ⊢
      rw [decide_eq_true (by omega), decide_eq_true (by omega)]; rfl]
    dsimp only
    rw [first_all (f := fun _ => kindsF (boundsP s k n)) _ 0 fun j h => by rw [hcode j h]; rfl]
    dsimp only
    unfold lastF
    obtain ⟨x, e, hx⟩ := follow_good (G := fun _ d => d.2 = []) (fun q x y h _ => by show List.zipWith _ x.2 y.2 = []; rw [h]; rfl) (boundsP s k n).code 0 (startF (boundsP s k n)) (fun q d _ h => by
        unfold startF at h
        split at h
        · cases h; rfl
        · cases h) fun j h d hd => by
        rw [hcode j h]
        exact ⟨rfl, fun hh => absurd rfl hh, fun _ => hd⟩
    rw [e]
    cases x with
    | none => rfl
    | some d => show (if d.2.all id = true then _ else _) = _; rw [hx d rfl]; rfl
  · rw [decide_eq_false hb, if_neg hb]; rfl
/-! ## Ways -/
def jumpsP (n r to op : Nat) : PD := ⟨[], [], [1], [], [0], (List.replicate (n + 1) (⟨0, 0, 0, 0⟩ : Ins)).set (r + 1) ⟨op, to, 0, 0⟩⟩
theorem jumps_check (n r to op : Nat) (hop : op = 19 ∨ op = 20) (hr : r < n) (hn : n ≤ 40) : checkF (jumpsP n r to op) = if r + 1 < to ∧ to ≤ n + 1 then (0, 0) else (r + 1, 2) := by
  have hp : partsF (jumpsP n r to op) = true := by
    unfold partsF jumpsP
    simp only [List.length_set, List.length_replicate]
    have : n + 1 ≤ 8192 := by omega
    simp [this, kdOk]
  have hlen : (jumpsP n r to op).code.length = n + 1 := by unfold jumpsP; simp
  have hcode : ∀ j (h : j < (jumpsP n r to op).code.length), (jumpsP n r to op).code[j] = if j = r + 1 then ⟨op, to, 0, 0⟩ else ⟨0, 0, 0, 0⟩ := fun j h => by
    show ((List.replicate (n + 1) (⟨0, 0, 0, 0⟩ : Ins)).set (r + 1) ⟨op, to, 0, 0⟩)[j]'(by simpa [jumpsP] using h) = _
    rw [List.getElem_set]
    by_cases e : j = r + 1
    · rw [if_pos e.symm, if_pos e]
    · rw [if_neg (by omega), if_neg e, List.getElem_replicate]
  have hz : ∀ pc, thereF (jumpsP n r to op) pc ⟨0, 0, 0, 0⟩ = true := fun pc => rfl
  have ht : ∀ pc, thereF (jumpsP n r to op) pc ⟨op, to, 0, 0⟩ = (decide (pc < to) && decide (to ≤ n + 1)) := fun pc => by
    rcases hop with rfl | rfl
    · show (targetF _ pc to && true) = _
      unfold targetF; rw [hlen, Bool.and_true]
    · show targetF _ pc to = _
      unfold targetF; rw [hlen]
  unfold checkF
  rw [hp, if_pos rfl]
  by_cases hw : r + 1 < to ∧ to ≤ n + 1
  · rw [if_pos hw]
    rw [first_all (f := thereF (jumpsP n r to op)) _ 0 fun j h => by
      rw [hcode j h]
      split
      · rename_i e; rw [ht, decide_eq_true (by omega), decide_eq_true hw.2]; rfl
      · exact hz _]
    dsimp only
    rw [first_all (f := fun _ => kindsF (jumpsP n r to op)) _ 0 fun j h => by
      rw [hcode j h]
      split
      · rcases hop with rfl | rfl <;> rfl
      · rfl]
    dsimp only
    unfold lastF
    obtain ⟨x, e, hx⟩ := follow_good (G := fun q d => d.2 = [] ∧ d.1.length = 1 ∧ (0 < q → d.1.getD 0 false = true)) (fun q x y h k => by
        refine ⟨by show List.zipWith _ x.2 y.2 = []; rw [h.1]; rfl, by show (List.zipWith _ x.1 y.1).length = 1; rw [List.length_zipWith, h.2.1, k.2.1]; rfl, fun hq => ?_⟩
        show (List.zipWith _ x.1 y.1).getD 0 false = true
        rw [getD_zip _ _ _ _ _ (by rw [h.2.1]; omega) (by rw [k.2.1]; omega), h.2.2 hq, k.2.2 hq]; rfl) (jumpsP n r to op).code 0 (startF (jumpsP n r to op)) (fun q d _ h => by
        unfold startF at h
        split at h
        · rename_i e; cases h; exact ⟨rfl, rfl, fun h => by omega⟩
        · cases h) fun j h d hd => by
        rw [hcode j h]
        obtain ⟨d1, d2⟩ := d
        obtain ⟨a1, a2, a3⟩ := hd
        by_cases e : j = r + 1
        · rw [if_pos e]
          have b1 := a3 (by omega)
          dsimp only at b1 a1 a2
          rcases hop with rfl | rfl
          · refine ⟨?_, fun _ => ⟨a1, a2, fun _ => b1⟩, fun _ => ⟨a1, a2, fun _ => b1⟩⟩
            show [0].all _ = true
            simp only [List.all_cons, List.all_nil, Bool.and_true]
            exact b1
          · exact ⟨rfl, fun hh => absurd rfl hh, fun _ => ⟨a1, a2, fun _ => b1⟩⟩
        · rw [if_neg e]
          refine ⟨rfl, fun _ => ⟨a1, by show (d1.set 0 true).length = 1; rw [List.length_set]; exact a2, fun _ => ?_⟩, fun hh => absurd hh (by decide)⟩
          show (d1.set 0 true).getD 0 false = true
          dsimp only at a2
          rw [getD_set, if_pos ⟨rfl, by omega⟩]
    rw [e]
    cases x with
    | none => rfl
    | some d => show (if d.2.all id = true then _ else _) = _; rw [(hx d rfl).1]; rfl
  · rw [if_neg hw]
    rw [first_at (f := thereF (jumpsP n r to op)) _ 0 (r + 1) (by rw [hlen]; omega) (fun i hi hlt => by rw [hcode i hi, if_neg (show ¬ i = r + 1 by omega)]; exact hz _) (by
      rw [hcode _ (by rw [hlen]; omega), if_pos rfl, ht, Nat.zero_add]
      by_cases h1 : r + 1 < to
      · rw [decide_eq_true h1, decide_eq_false (fun h2 => hw ⟨h1, h2⟩)]; rfl
      · rw [decide_eq_false h1]; rfl), Nat.zero_add]
end Go.Plain
