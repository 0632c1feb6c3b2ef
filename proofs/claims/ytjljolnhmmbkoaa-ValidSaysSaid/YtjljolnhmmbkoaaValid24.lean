/- What is proved: the leaves of the document's own check. Conditions: none. -/
import Derived.Test.YtjljolnhmmbkoaaValid18
set_option linter.unusedVariables false
set_option linter.unusedSimpArgs false
set_option linter.unusedSectionVars false
namespace Go.Proofs.Ytjljolnhmmbkoaa
open Go.Eng Go.Plain
set_option autoImplicit false
set_option maxRecDepth 100000
variable {nat : ∀ [Deep], Nats}
@[go_sem] theorem opd_s0 {φ : FN} : opd φ (.const (.string { data := #[99, 111, 110, 115, 116] })) = .str 5 500152823651 := rfl
@[go_sem] theorem opd_s1 {φ : FN} : opd φ (.const (.string { data := #[109, 111, 118, 101] })) = .str 4 1702260589 := rfl
@[go_sem] theorem opd_s2 {φ : FN} : opd φ (.const (.string { data := #[108, 111, 97, 100] })) = .str 4 1684107116 := rfl
@[go_sem] theorem opd_s3 {φ : FN} : opd φ (.const (.string { data := #[107, 101, 101, 112] })) = .str 4 1885693291 := rfl
@[go_sem] theorem opd_s4 {φ : FN} : opd φ (.const (.string { data := #[105, 110] })) = .str 2 28265 := rfl
@[go_sem] theorem opd_s5 {φ : FN} : opd φ (.const (.string { data := #[111, 117, 116] })) = .str 3 7632239 := rfl
@[go_sem] theorem opd_s6 {φ : FN} : opd φ (.const (.string { data := #[110, 111, 116] })) = .str 3 7630702 := rfl
@[go_sem] theorem opd_s7 {φ : FN} : opd φ (.const (.string { data := #[110, 101, 103] })) = .str 3 6776174 := rfl
@[go_sem] theorem opd_s8 {φ : FN} : opd φ (.const (.string { data := #[97, 100, 100] })) = .str 3 6579297 := rfl
@[go_sem] theorem opd_s9 {φ : FN} : opd φ (.const (.string { data := #[115, 117, 98] })) = .str 3 6452595 := rfl
@[go_sem] theorem opd_s10 {φ : FN} : opd φ (.const (.string { data := #[109, 117, 108] })) = .str 3 7107949 := rfl
@[go_sem] theorem opd_s11 {φ : FN} : opd φ (.const (.string { data := #[100, 105, 118] })) = .str 3 7760228 := rfl
@[go_sem] theorem opd_s12 {φ : FN} : opd φ (.const (.string { data := #[109, 111, 100] })) = .str 3 6582125 := rfl
@[go_sem] theorem opd_s13 {φ : FN} : opd φ (.const (.string { data := #[101, 113] })) = .str 2 29029 := rfl
@[go_sem] theorem opd_s14 {φ : FN} : opd φ (.const (.string { data := #[108, 116] })) = .str 2 29804 := rfl
@[go_sem] theorem opd_s15 {φ : FN} : opd φ (.const (.string { data := #[108, 101] })) = .str 2 25964 := rfl
@[go_sem] theorem opd_s16 {φ : FN} : opd φ (.const (.string { data := #[97, 110, 100] })) = .str 3 6581857 := rfl
@[go_sem] theorem opd_s17 {φ : FN} : opd φ (.const (.string { data := #[111, 114] })) = .str 2 29295 := rfl
@[go_sem] theorem opd_s18 {φ : FN} : opd φ (.const (.string { data := #[120, 111, 114] })) = .str 3 7499640 := rfl
@[go_sem] theorem opd_s19 {φ : FN} : opd φ (.const (.string { data := #[117, 110, 108, 101, 115, 115] })) = .str 6 126939460038261 := rfl
@[go_sem] theorem opd_s20 {φ : FN} : opd φ (.const (.string { data := #[106, 117, 109, 112] })) = .str 4 1886221674 := rfl
@[go_sem] theorem opd_s21 {φ : FN} : opd φ (.const (.string { data := #[] })) = .str 0 0 := rfl
def opNames : List AV := [.str 5 500152823651, .str 4 1702260589, .str 4 1684107116, .str 4 1885693291, .str 2 28265, .str 3 7632239, .str 3 7630702, .str 3 6776174, .str 3 6579297, .str 3 6452595, .str 3 7107949, .str 3 7760228, .str 3 6582125, .str 2 29029, .str 2 29804, .str 2 25964, .str 3 6581857, .str 2 29295, .str 3 7499640, .str 6 126939460038261, .str 4 1886221674]
theorem opNames_at : ∀ op : Nat, op < 21 → ∃ n w, opNames[op]? = some (.str (n + 1) w)
  | 0, _ => ⟨_, _, rfl⟩
  | 1, _ => ⟨_, _, rfl⟩
  | 2, _ => ⟨_, _, rfl⟩
  | 3, _ => ⟨_, _, rfl⟩
  | 4, _ => ⟨_, _, rfl⟩
  | 5, _ => ⟨_, _, rfl⟩
  | 6, _ => ⟨_, _, rfl⟩
  | 7, _ => ⟨_, _, rfl⟩
  | 8, _ => ⟨_, _, rfl⟩
  | 9, _ => ⟨_, _, rfl⟩
  | 10, _ => ⟨_, _, rfl⟩
  | 11, _ => ⟨_, _, rfl⟩
  | 12, _ => ⟨_, _, rfl⟩
  | 13, _ => ⟨_, _, rfl⟩
  | 14, _ => ⟨_, _, rfl⟩
  | 15, _ => ⟨_, _, rfl⟩
  | 16, _ => ⟨_, _, rfl⟩
  | 17, _ => ⟨_, _, rfl⟩
  | 18, _ => ⟨_, _, rfl⟩
  | 19, _ => ⟨_, _, rfl⟩
  | 20, _ => ⟨_, _, rfl⟩
  | n + 21, h => absurd h (by omega)
theorem in_call (U : Usual nat) (η : HN) (l : List Nat) (n : Nat) (hn : n < 18446744073709551616) (hm : l.length ≤ 1099511627776) : CallN Try.prog nat 89 [.int .i64 n, .int .i64 l.length] η (.bool (has l n)) η := by
  have : ∃ v η', CallN Try.prog nat 89 [.int .i64 n, .int .i64 l.length] η v η' ∧ v = .bool (has l n) ∧ η' = η := by
    refine call_of (PT := pl89) Try.func89 rfl (U 89 (by decide)) ok89 rfl ?_
    unfold has
    by_cases h0 : 9223372036854775807 < n
    · have hlt := ltN_neg h0
      rw [decide_eq_false (by omega)]
      simp -implicitDefEqProofs (disch := omega) only [go_sem, hlt, Bool.not_true]
    by_cases h1 : n < l.length
    · rw [decide_eq_true h1]
      simp -implicitDefEqProofs (disch := omega) only [go_sem, Bool.not_false]
    · rw [decide_eq_false h1]
      simp -implicitDefEqProofs (disch := omega) only [go_sem, Bool.not_false]
  obtain ⟨v, η', k, rfl, rfl⟩ := this
  exact k
theorem rep_9 {z : AV} : List.replicate 21 z = [z, z, z, z, z, z, z, z, z, z, z, z, z, z, z, z, z, z, z, z, z] := rfl
set_option maxHeartbeats 1000000 in
theorem rows_spec (U : Usual nat) (η : HN) : ∃ v η', CallN Try.prog nat 104 [] η v η' ∧ (∃ y, v = .tup [.slice η.nx 0 21 (.kn 21), y]) ∧ ExtB η.nx η η' ∧ η'.f η.nx = .live false opNames ∧ η.nx < η'.nx := by
  refine call_of (PT := pl104) Try.func104 rfl (U 104 (by decide)) ok104 rfl ?_
  simp -implicitDefEqProofs (disch := omega) only [go_sem, rep_9]
  refine ⟨⟨_, rfl⟩, extN (extN (.refl _ _)), rfl, by show η.nx < η.nx + 1 + 1; omega⟩
theorem name_then (U : Usual nat) {η : HN} {op : Nat} {Q : AV → HN → Prop} (hop : op < 18446744073709551616) (h : ∀ n w η', ExtB η.nx η η' → (n = 0 ↔ ¬ op < 21) → (n = 0 → w = 0) → Q (.str n w) η') : ∃ v η', CallN Try.prog nat 88 [.int .i64 op] η v η' ∧ Q v η' := by
  refine call_of (PT := pl88) Try.func88 rfl (U 88 (by decide)) ok88 rfl ?_
  simp -implicitDefEqProofs (disch := omega) only [go_sem]
  obtain ⟨v, η', k, ⟨y, rfl⟩, E, hb, hn⟩ := rows_spec U η
  refine thenN_call ⟨_, _, k, ?_⟩
  by_cases h0 : 9223372036854775807 < op
  · have hlt := ltN_neg h0
    simp -implicitDefEqProofs (disch := omega) only [go_sem, hlt]
    exact h _ _ _ E (by omega) fun _ => rfl
  by_cases h1 : op < 21
  · obtain ⟨n, w, e⟩ := opNames_at op h1
    have hl : opNames.length = 21 := rfl
    simp -implicitDefEqProofs (disch := omega) only [go_sem, hb, e]
    exact h _ _ _ E (by omega) fun e => by omega
  · simp -implicitDefEqProofs (disch := omega) only [go_sem]
    exact h _ _ _ E (by omega) fun _ => rfl
/-- the slots that the document's own reads -/
def readsD (i : Ins) : List Nat := if i.op = 1 ∨ i.op = 3 ∨ i.op = 5 ∨ i.op = 6 ∨ i.op = 7 ∨ i.op = 19 then [i.b] else if 8 ≤ i.op ∧ i.op ≤ 18 then [i.b, i.c] else []
theorem readsD_F {i : Ins} (h : i.op ≤ 20) : readsD i = readsF i := by
  unfold readsD readsF
  by_cases h1 : i.op = 1 ∨ i.op = 3 ∨ i.op = 5 ∨ i.op = 6 ∨ i.op = 7 ∨ i.op = 19
  · rw [if_pos h1, if_neg (by omega), if_neg (by omega)]
  · rw [if_neg h1]
    by_cases h2 : 8 ≤ i.op ∧ i.op ≤ 18
    · rw [if_pos h2, if_neg (by omega), if_pos h2]
    · rw [if_neg h2, if_pos (by omega)]
theorem readsD_then (U : Usual nat) {η : HN} {i : Ins} {Q : AV → HN → Prop} (hi : i.op < 18446744073709551616) (h : ∀ v η', ExtB η.nx η η' → RdI .i64 η' v (readsD i) → Q v η') : ∃ v η', CallN Try.prog nat 48 [.agg i.cells] η v η' ∧ Q v η' := by
  refine call_of (PT := pl48) Try.func48 rfl (U 48 (by decide)) ok48 rfl ?_
  obtain ⟨op, a, b, c⟩ := i
  have hcs : Ins.cells ⟨op, a, b, c⟩ = [.int .i64 op, .int .i64 a, .int .i64 b, .int .i64 c] := rfl
  have E1 : ExtB η.nx η (η.new (.live false [.int .i64 op, .int .i64 a, .int .i64 b, .int .i64 c])) := extN (.refl _ _)
  have key : ∀ l : List Nat, l = [b] ∨ l = [b, c] → readsD ⟨op, a, b, c⟩ = l → Q (.slice (η.nx + 1) 0 l.length (.kn l.length)) ((η.new (.live false [.int .i64 op, .int .i64 a, .int .i64 b, .int .i64 c])).new (.live false (l.map (.int .i64)))) := fun l _ hl => by
    refine h _ _ (extN E1) ?_
    rw [hl]
    exact rdI_blk l (by show (if η.nx + 1 = η.nx + 1 then _ else _) = _; rw [if_pos rfl]) (Nat.lt_succ_self _)
  dsimp only at hi
  by_cases h1 : op = 1
  · subst h1
    simp -implicitDefEqProofs (disch := omega) only [go_sem, hcs]
    exact key [b] (.inl rfl) rfl
  by_cases h3 : op = 3
  · subst h3
    simp -implicitDefEqProofs (disch := omega) only [go_sem, hcs]
    exact key [b] (.inl rfl) rfl
  by_cases h5 : op = 5
  · subst h5
    simp -implicitDefEqProofs (disch := omega) only [go_sem, hcs]
    exact key [b] (.inl rfl) rfl
  by_cases h6 : op = 6
  · subst h6
    simp -implicitDefEqProofs (disch := omega) only [go_sem, hcs]
    exact key [b] (.inl rfl) rfl
  by_cases h7 : op = 7
  · subst h7
    simp -implicitDefEqProofs (disch := omega) only [go_sem, hcs]
    exact key [b] (.inl rfl) rfl
  by_cases h19 : op = 19
  · subst h19
    simp -implicitDefEqProofs (disch := omega) only [go_sem, hcs]
    exact key [b] (.inl rfl) rfl
  have hnr : readsD ⟨op, a, b, c⟩ = if 8 ≤ op ∧ op ≤ 18 then [b, c] else [] := by unfold readsD; rw [if_neg (by dsimp only; omega)]
  by_cases hb : 8 ≤ op ∧ op ≤ 18
  · rw [if_pos hb] at hnr
    obtain ⟨hb1, hb2⟩ := hb
    simp -implicitDefEqProofs (disch := omega) only [go_sem, hcs, Bool.not_false]
    exact key [b, c] (.inr rfl) hnr
  · rw [if_neg hb] at hnr
    have hn : Q .nilslice (η.new (.live false [.int .i64 op, .int .i64 a, .int .i64 b, .int .i64 c])) := h _ _ E1 (by rw [hnr]; exact rdI_nil)
    by_cases h0 : 9223372036854775807 < op
    · have hlt : ltN .i64 op 8 = true := by
        have h1 : nneg .i64 op = false := by rw [nneg_i64]; exact decide_eq_false (by omega)
        have h2 : nneg .i64 8 = true := rfl
        unfold ltN; rw [h1, h2]; rfl
      simp -implicitDefEqProofs (disch := omega) only [go_sem, hcs, hlt, Bool.not_true]
      exact hn
    by_cases h9 : op < 8
    · simp -implicitDefEqProofs (disch := omega) only [go_sem, hcs, Bool.not_true]
      exact hn
    · simp -implicitDefEqProofs (disch := omega) only [go_sem, hcs, Bool.not_false, Bool.not_true]
      exact hn
/-- the slot that the document's own writes -/
def writesD (i : Ins) : Nat := if i.op = 3 ∨ i.op = 5 ∨ 19 ≤ i.op then 18446744073709551615 else i.a
theorem writes_then (U : Usual nat) {η : HN} {i : Ins} {Q : AV → HN → Prop} (hi : i.op ≤ 20) (h : Q (.int .i64 (writesD i)) (η.new (.live false i.cells))) : ∃ v η', CallN Try.prog nat 49 [.agg i.cells] η v η' ∧ Q v η' := by
  refine call_of (PT := pl49) Try.func49 rfl (U 49 (by decide)) ok49 rfl ?_
  obtain ⟨op, a, b, c⟩ := i
  have hcs : Ins.cells ⟨op, a, b, c⟩ = [.int .i64 op, .int .i64 a, .int .i64 b, .int .i64 c] := rfl
  dsimp only at hi
  unfold writesD at h
  dsimp only at h
  by_cases h3 : op = 3
  · subst h3
    rw [if_pos (by omega)] at h
    simp -implicitDefEqProofs (disch := omega) only [go_sem, hcs]
    exact h
  by_cases h5 : op = 5
  · subst h5
    rw [if_pos (by omega)] at h
    simp -implicitDefEqProofs (disch := omega) only [go_sem, hcs]
    exact h
  by_cases h19 : 19 ≤ op
  · rw [if_pos (by omega)] at h
    simp -implicitDefEqProofs (disch := omega) only [go_sem, hcs, Bool.not_false]
    exact h
  · rw [if_neg (by omega)] at h
    simp -implicitDefEqProofs (disch := omega) only [go_sem, hcs, Bool.not_true]
    exact h
end Go.Proofs.Ytjljolnhmmbkoaa
