/- What is proved: the leaves of the document's own check. the document's own second rule is the program's. Conditions: as each theorem says. -/
import Derived.Test.YtjljolnhmmbkoaaValC
set_option linter.unusedVariables false
set_option linter.unusedSimpArgs false
set_option linter.unusedSectionVars false
namespace Go.Proofs.Ytjljolnhmmbkoaa
open Go.Eng Go.Plain
set_option autoImplicit false
set_option maxRecDepth 100000
variable {nat : ∀ [Deep], Nats}
@[go_sem] theorem opd_s0 {φ : FN} : opd φ (.const (.string { data := #[99, 111, 110, 115, 116] })) = .str 5 500152823651 := rfl
@[go_sem] theorem opd_s1 {φ : FN} : opd φ (.const (.string { data := #[109, 111, 118, 101] })) = .str 4 1702260589 := rfl
@[go_sem] theorem opd_s2 {φ : FN} : opd φ (.const (.string { data := #[108, 111, 97, 100] })) = .str 4 1684107116 := rfl
@[go_sem] theorem opd_s3 {φ : FN} : opd φ (.const (.string { data := #[107, 101, 101, 112] })) = .str 4 1885693291 := rfl
@[go_sem] theorem opd_s4 {φ : FN} : opd φ (.const (.string { data := #[105, 110] })) = .str 2 28265 := rfl
@[go_sem] theorem opd_s5 {φ : FN} : opd φ (.const (.string { data := #[111, 117, 116] })) = .str 3 7632239 := rfl
@[go_sem] theorem opd_s6 {φ : FN} : opd φ (.const (.string { data := #[110, 111, 116] })) = .str 3 7630702 := rfl
@[go_sem] theorem opd_s7 {φ : FN} : opd φ (.const (.string { data := #[110, 101, 103] })) = .str 3 6776174 := rfl
@[go_sem] theorem opd_s8 {φ : FN} : opd φ (.const (.string { data := #[97, 100, 100] })) = .str 3 6579297 := rfl
@[go_sem] theorem opd_s9 {φ : FN} : opd φ (.const (.string { data := #[115, 117, 98] })) = .str 3 6452595 := rfl
@[go_sem] theorem opd_s10 {φ : FN} : opd φ (.const (.string { data := #[109, 117, 108] })) = .str 3 7107949 := rfl
@[go_sem] theorem opd_s11 {φ : FN} : opd φ (.const (.string { data := #[100, 105, 118] })) = .str 3 7760228 := rfl
@[go_sem] theorem opd_s12 {φ : FN} : opd φ (.const (.string { data := #[109, 111, 100] })) = .str 3 6582125 := rfl
@[go_sem] theorem opd_s13 {φ : FN} : opd φ (.const (.string { data := #[101, 113] })) = .str 2 29029 := rfl
@[go_sem] theorem opd_s14 {φ : FN} : opd φ (.const (.string { data := #[108, 116] })) = .str 2 29804 := rfl
@[go_sem] theorem opd_s15 {φ : FN} : opd φ (.const (.string { data := #[108, 101] })) = .str 2 25964 := rfl
@[go_sem] theorem opd_s16 {φ : FN} : opd φ (.const (.string { data := #[97, 110, 100] })) = .str 3 6581857 := rfl
@[go_sem] theorem opd_s17 {φ : FN} : opd φ (.const (.string { data := #[111, 114] })) = .str 2 29295 := rfl
@[go_sem] theorem opd_s18 {φ : FN} : opd φ (.const (.string { data := #[120, 111, 114] })) = .str 3 7499640 := rfl
@[go_sem] theorem opd_s19 {φ : FN} : opd φ (.const (.string { data := #[117, 110, 108, 101, 115, 115] })) = .str 6 126939460038261 := rfl
@[go_sem] theorem opd_s20 {φ : FN} : opd φ (.const (.string { data := #[106, 117, 109, 112] })) = .str 4 1886221674 := rfl
@[go_sem] theorem opd_s21 {φ : FN} : opd φ (.const (.string { data := #[] })) = .str 0 0 := rfl
def opNames : List AV := [.str 5 500152823651, .str 4 1702260589, .str 4 1684107116, .str 4 1885693291, .str 2 28265, .str 3 7632239, .str 3 7630702, .str 3 6776174, .str 3 6579297, .str 3 6452595, .str 3 7107949, .str 3 7760228, .str 3 6582125, .str 2 29029, .str 2 29804, .str 2 25964, .str 3 6581857, .str 2 29295, .str 3 7499640, .str 6 126939460038261, .str 4 1886221674]
theorem opNames_at : ∀ op : Nat, op < 21 → ∃ n w, opNames[op]? = some (.str (n + 1) w)
 | 0, _ => ⟨_, _, rfl⟩
 | 1, _ => ⟨_, _, rfl⟩
 | 2, _ => ⟨_, _, rfl⟩
 | 3, _ => ⟨_, _, rfl⟩
 | 4, _ => ⟨_, _, rfl⟩
 | 5, _ => ⟨_, _, rfl⟩
 | 6, _ => ⟨_, _, rfl⟩
 | 7, _ => ⟨_, _, rfl⟩
 | 8, _ => ⟨_, _, rfl⟩
 | 9, _ => ⟨_, _, rfl⟩
 | 10, _ => ⟨_, _, rfl⟩
 | 11, _ => ⟨_, _, rfl⟩
 | 12, _ => ⟨_, _, rfl⟩
 | 13, _ => ⟨_, _, rfl⟩
 | 14, _ => ⟨_, _, rfl⟩
 | 15, _ => ⟨_, _, rfl⟩
 | 16, _ => ⟨_, _, rfl⟩
 | 17, _ => ⟨_, _, rfl⟩
 | 18, _ => ⟨_, _, rfl⟩
 | 19, _ => ⟨_, _, rfl⟩
 | 20, _ => ⟨_, _, rfl⟩
 | n + 21, h => absurd h (by omega)
theorem in_call (U : Usual nat) (η : HN) (l : List Nat) (n : Nat) (hn : n < 18446744073709551616) (hm : l.length ≤ 1099511627776) : CallN Try.prog nat 89 [.int .i64 n, .int .i64 l.length] η (.bool (has l n)) η := by
 have : ∃ v η', CallN Try.prog nat 89 [.int .i64 n, .int .i64 l.length] η v η' ∧ v = .bool (has l n) ∧ η' = η := by
  refine call_of (PT := pl89) Try.func89 rfl (U 89 (by decide)) ok89 rfl ?_
  unfold has
  by_cases h0 : 9223372036854775807 < n
  ·have hlt := ltN_neg h0
   rw [decide_eq_false (by omega)]
   simp -implicitDefEqProofs (disch := omega) only [go_sem, hlt, Bool.not_true]
  by_cases h1 : n < l.length
  ·rw [decide_eq_true h1]
   simp -implicitDefEqProofs (disch := omega) only [go_sem, Bool.not_false]
  ·rw [decide_eq_false h1]
   simp -implicitDefEqProofs (disch := omega) only [go_sem, Bool.not_false]
 obtain ⟨v, η', k, rfl, rfl⟩ := this
 exact k
theorem rep_9 {z : AV} : List.replicate 21 z = [z, z, z, z, z, z, z, z, z, z, z, z, z, z, z, z, z, z, z, z, z] := rfl
set_option maxHeartbeats 1000000 in
theorem rows_spec (U : Usual nat) (η : HN) : ∃ v η', CallN Try.prog nat 104 [] η v η' ∧ (∃ y, v = .tup [.slice η.nx 0 21 (.kn 21), y]) ∧ ExtB η.nx η η' ∧ η'.f η.nx = .live false opNames ∧ η.nx < η'.nx := by
 refine call_of (PT := pl104) Try.func104 rfl (U 104 (by decide)) ok104 rfl ?_
 simp -implicitDefEqProofs (disch := omega) only [go_sem, rep_9]
 refine ⟨⟨_, rfl⟩, extN (extN (.refl _ _)), rfl, by show η.nx < η.nx + 1 + 1; omega⟩
theorem name_then (U : Usual nat) {η : HN} {op : Nat} {Q : AV → HN → Prop} (hop : op < 18446744073709551616) (h : ∀ n w η', ExtB η.nx η η' → (n = 0 ↔ ¬ op < 21) → (n = 0 → w = 0) → Q (.str n w) η') : ∃ v η', CallN Try.prog nat 88 [.int .i64 op] η v η' ∧ Q v η' := by
 refine call_of (PT := pl88) Try.func88 rfl (U 88 (by decide)) ok88 rfl ?_
 simp -implicitDefEqProofs (disch := omega) only [go_sem]
 obtain ⟨v, η', k, ⟨y, rfl⟩, E, hb, hn⟩ := rows_spec U η
 refine thenN_call ⟨_, _, k, ?_⟩
 by_cases h0 : 9223372036854775807 < op
 ·have hlt := ltN_neg h0
  simp -implicitDefEqProofs (disch := omega) only [go_sem, hlt]
  exact h _ _ _ E (by omega) fun _ => rfl
 by_cases h1 : op < 21
 ·obtain ⟨n, w, e⟩ := opNames_at op h1
  have hl : opNames.length = 21 := rfl
  simp -implicitDefEqProofs (disch := omega) only [go_sem, hb, e]
  exact h _ _ _ E (by omega) fun e => by omega
 ·simp -implicitDefEqProofs (disch := omega) only [go_sem]
  exact h _ _ _ E (by omega) fun _ => rfl
def readsD (i : Ins) : List Nat := if i.op = 1 ∨ i.op = 3 ∨ i.op = 5 ∨ i.op = 6 ∨ i.op = 7 ∨ i.op = 19 then [i.b] else if 8 ≤ i.op ∧ i.op ≤ 18 then [i.b, i.c] else []
theorem readsD_F {i : Ins} (h : i.op ≤ 20) : readsD i = readsF i := by
 unfold readsD readsF
 by_cases h1 : i.op = 1 ∨ i.op = 3 ∨ i.op = 5 ∨ i.op = 6 ∨ i.op = 7 ∨ i.op = 19
 ·rw [if_pos h1, if_neg (by omega), if_neg (by omega)]
 ·rw [if_neg h1]
  by_cases h2 : 8 ≤ i.op ∧ i.op ≤ 18
  ·rw [if_pos h2, if_neg (by omega), if_pos h2]
  ·rw [if_neg h2, if_pos (by omega)]
theorem readsD_then (U : Usual nat) {η : HN} {i : Ins} {Q : AV → HN → Prop} (hi : i.op < 18446744073709551616) (h : ∀ v η', ExtB η.nx η η' → RdI .i64 η' v (readsD i) → Q v η') : ∃ v η', CallN Try.prog nat 48 [.agg i.cells] η v η' ∧ Q v η' := by
 refine call_of (PT := pl48) Try.func48 rfl (U 48 (by decide)) ok48 rfl ?_
 obtain ⟨op, a, b, c⟩ := i
 have hcs : Ins.cells ⟨op, a, b, c⟩ = [.int .i64 op, .int .i64 a, .int .i64 b, .int .i64 c] := rfl
 have E1 : ExtB η.nx η (η.new (.live false [.int .i64 op, .int .i64 a, .int .i64 b, .int .i64 c])) := extN (.refl _ _)
 have key : ∀ l : List Nat, l = [b] ∨ l = [b, c] → readsD ⟨op, a, b, c⟩ = l → Q (.slice (η.nx + 1) 0 l.length (.kn l.length)) ((η.new (.live false [.int .i64 op, .int .i64 a, .int .i64 b, .int .i64 c])).new (.live false (l.map (.int .i64)))) := fun l _ hl => by
  refine h _ _ (extN E1) ?_
  rw [hl]
  exact rdI_blk l (by show (if η.nx + 1 = η.nx + 1 then _ else _) = _; rw [if_pos rfl]) (Nat.lt_succ_self _)
 dsimp only at hi
 by_cases h1 : op = 1
 ·subst h1
  simp -implicitDefEqProofs (disch := omega) only [go_sem, hcs]
  exact key [b] (.inl rfl) rfl
 by_cases h3 : op = 3
 ·subst h3
  simp -implicitDefEqProofs (disch := omega) only [go_sem, hcs]
  exact key [b] (.inl rfl) rfl
 by_cases h5 : op = 5
 ·subst h5
  simp -implicitDefEqProofs (disch := omega) only [go_sem, hcs]
  exact key [b] (.inl rfl) rfl
 by_cases h6 : op = 6
 ·subst h6
  simp -implicitDefEqProofs (disch := omega) only [go_sem, hcs]
  exact key [b] (.inl rfl) rfl
 by_cases h7 : op = 7
 ·subst h7
  simp -implicitDefEqProofs (disch := omega) only [go_sem, hcs]
  exact key [b] (.inl rfl) rfl
 by_cases h19 : op = 19
 ·subst h19
  simp -implicitDefEqProofs (disch := omega) only [go_sem, hcs]
  exact key [b] (.inl rfl) rfl
 have hnr : readsD ⟨op, a, b, c⟩ = if 8 ≤ op ∧ op ≤ 18 then [b, c] else [] := by unfold readsD; rw [if_neg (by dsimp only; omega)]
 by_cases hb : 8 ≤ op ∧ op ≤ 18
 ·rw [if_pos hb] at hnr
  obtain ⟨hb1, hb2⟩ := hb
  simp -implicitDefEqProofs (disch := omega) only [go_sem, hcs, Bool.not_false]
  exact key [b, c] (.inr rfl) hnr
 ·rw [if_neg hb] at hnr
  have hn : Q .nilslice (η.new (.live false [.int .i64 op, .int .i64 a, .int .i64 b, .int .i64 c])) := h _ _ E1 (by rw [hnr]; exact rdI_nil)
  by_cases h0 : 9223372036854775807 < op
  ·have hlt : ltN .i64 op 8 = true := by
    have h1 : nneg .i64 op = false := by rw [nneg_i64]; exact decide_eq_false (by omega)
    have h2 : nneg .i64 8 = true := rfl
    unfold ltN; rw [h1, h2]; rfl
   simp -implicitDefEqProofs (disch := omega) only [go_sem, hcs, hlt, Bool.not_true]
   exact hn
  by_cases h9 : op < 8
  ·simp -implicitDefEqProofs (disch := omega) only [go_sem, hcs, Bool.not_true]
   exact hn
  ·simp -implicitDefEqProofs (disch := omega) only [go_sem, hcs, Bool.not_false, Bool.not_true]
   exact hn
def writesD (i : Ins) : Nat := if i.op = 3 ∨ i.op = 5 ∨ 19 ≤ i.op then 18446744073709551615 else i.a
theorem writes_then (U : Usual nat) {η : HN} {i : Ins} {Q : AV → HN → Prop} (hi : i.op ≤ 20) (h : Q (.int .i64 (writesD i)) (η.new (.live false i.cells))) : ∃ v η', CallN Try.prog nat 49 [.agg i.cells] η v η' ∧ Q v η' := by
 refine call_of (PT := pl49) Try.func49 rfl (U 49 (by decide)) ok49 rfl ?_
 obtain ⟨op, a, b, c⟩ := i
 have hcs : Ins.cells ⟨op, a, b, c⟩ = [.int .i64 op, .int .i64 a, .int .i64 b, .int .i64 c] := rfl
 dsimp only at hi
 unfold writesD at h
 dsimp only at h
 by_cases h3 : op = 3
 ·subst h3
  rw [if_pos (by omega)] at h
  simp -implicitDefEqProofs (disch := omega) only [go_sem, hcs]
  exact h
 by_cases h5 : op = 5
 ·subst h5
  rw [if_pos (by omega)] at h
  simp -implicitDefEqProofs (disch := omega) only [go_sem, hcs]
  exact h
 by_cases h19 : 19 ≤ op
 ·rw [if_pos (by omega)] at h
  simp -implicitDefEqProofs (disch := omega) only [go_sem, hcs, Bool.not_false]
  exact h
 ·rw [if_neg (by omega)] at h
  simp -implicitDefEqProofs (disch := omega) only [go_sem, hcs, Bool.not_true]
  exact h
end Go.Proofs.Ytjljolnhmmbkoaa
namespace Go.Plain
open Go.Eng
def specF (p : PD) (pc : Nat) (i : Ins) : Bool := if i.op = 0 then has p.consts i.b else if i.op = 2 then has p.mems i.b else if i.op = 3 then has p.mems i.a else if i.op = 4 then has p.ins i.b else if i.op = 5 then has p.outs i.a else if i.op = 19 ∨ i.op = 20 then targetF p pc i.a else true
def ownF (p : PD) (i : Ins) : Bool := if i.op = 3 ∨ i.op = 5 ∨ 19 ≤ i.op then true else has p.slots i.a
end Go.Plain
namespace Go.Proofs.Ytjljolnhmmbkoaa
open Go.Eng Go.Plain
set_option autoImplicit false
set_option maxRecDepth 100000
variable {nat : ∀ [Deep], Nats}
def namedF (p : PD) (pc : Nat) (i : Ins) : Bool := decide (i.op < 21) && ((readsD i).all (has p.slots) && (ownF p i && specF p pc i))
theorem namedF_eq (p : PD) (pc : Nat) (i : Ins) : namedF p pc i = thereF p pc i := by
 obtain ⟨op, a, b, c⟩ := i
 unfold namedF thereF readsD ownF specF
 dsimp only
 by_cases h21 : op < 21
 ·rw [decide_eq_true h21, Bool.true_and]
  have : op = 0 ∨ op = 1 ∨ op = 2 ∨ op = 3 ∨ op = 4 ∨ op = 5 ∨ op = 6 ∨ op = 7 ∨ op = 19 ∨ op = 20 ∨ (8 ≤ op ∧ op ≤ 18) := by omega
  rcases this with rfl | rfl | rfl | rfl | rfl | rfl | rfl | rfl | rfl | rfl | h
  all_goals try (simp [Bool.and_comm]; done)
  rw [if_neg (by omega), if_pos h, if_neg (by omega), if_neg (by omega), if_neg (by omega), if_neg (by omega), if_neg (by omega), if_neg (by omega), if_neg (by omega), if_neg (by omega), if_neg (by omega), if_neg (by omega), if_neg (by omega), if_neg (by omega), if_neg (by omega), if_neg (by omega), if_neg (by omega), decide_eq_true h]
  simp only [List.all_cons, List.all_nil]
  cases has p.slots a <;> cases has p.slots b <;> cases has p.slots c <;> rfl
 ·rw [decide_eq_false h21, Bool.false_and, if_neg (by omega), if_neg (by omega), if_neg (by omega), if_neg (by omega), if_neg (by omega), if_neg (by omega), if_neg (by omega), if_neg (by omega), decide_eq_false (by omega)]; rfl
def naI (η0 : HN) (T2 T5 pc : Nat) (y : AV) (l : List Nat) (s : List Nat) (m : Nat) (φ : FN) (η : HN) : Prop := η = η0 ∧ ∃ i, m = l.length - i ∧ i ≤ l.length ∧ φ 1 = .int .i64 pc ∧ φ 2 = .ptr T2 0 ∧ φ 5 = .ptr T5 0 ∧ φ 6 = y ∧ φ 7 = .int .i64 i ∧ ∀ x ∈ l.take i, has s x = true
theorem all_take {q : Nat → Bool} {l : List Nat} {i : Nat} (h : ∀ x ∈ l.take i, q x = true) (hi : i < l.length) (hx : q l[i] = true) : ∀ x ∈ l.take (i + 1), q x = true := by
 intro x hx'
 rw [List.take_succ_eq_append_getElem hi, List.mem_append, List.mem_singleton] at hx'
 rcases hx' with h1 | rfl
 ·exact h x h1
 ·exact hx
theorem readsD_len (i : Ins) : (readsD i).length ≤ 2 := by
 unfold readsD; split
 ·simp
 ·split <;> simp
theorem readsD_lt {i : Ins} (hi : i.b < 18446744073709551616 ∧ i.c < 18446744073709551616) : ∀ n ∈ readsD i, n < 18446744073709551616 := by
 unfold readsD
 intro n hn
 split at hn
 ·simp at hn; omega
 ·split at hn
  ·simp at hn; omega
  ·cases hn
set_option maxHeartbeats 4000000 in
theorem named_then (U : Usual nat) {η : HN} {z : PV} {p : PD} {pc : Nat} {i : Ins} {Q : AV → HN → Prop} (hp : IsP η z p) (hf : Fine p) (hpc : pc < p.code.length) (hi0 : p.code[pc] = i)
  (h : ∀ η', ExtB η.nx η η' → Q (.bool (thereF p pc i)) η') : ∃ v η', CallN Try.prog nat 46 [.agg z.cells, .int .i64 pc] η v η' ∧ Q v η' := by
 refine call_of (PT := pl46) Try.func46 rfl (U 46 (by decide)) ok46 rfl ?_
 have l1 := rdI_len hp.ins hf.ins.1
 have l2 := rdI_len hp.outs hf.outs.1
 have l3 := rdI_len hp.slots hf.slots.1
 have l4 := rdI_len hp.mems hf.mems.1
 have l5 := rdI_len hp.consts hf.consts.1
 have l6 := rdC_len hp.code hf.code.1
 have b6 := hf.code.1
 obtain ⟨bc, offc, capc, roc, rowc, z6e, hbc, hbcn, hlc, hrc⟩ := RdR.at (i := pc) hp.code (by simpa using hpc)
 simp only [List.length_map, List.getElem_map, hi0] at z6e hrc
 have hsz : (Ins.cells i).length = 4 := rfl
 have fb := hf.code.2 _ (List.getElem_mem hpc)
 rw [hi0] at fb
 have hnF := namedF_eq p pc i
 unfold namedF at hnF
 have hrl := readsD_len i
 have hrlt := readsD_lt (i := i) ⟨fb.2.2.1, fb.2.2.2⟩
 obtain ⟨op, a, b, c⟩ := i
 have hcs : Ins.cells ⟨op, a, b, c⟩ = [.int .i64 op, .int .i64 a, .int .i64 b, .int .i64 c] := rfl
 rw [hcs] at hrc
 dsimp only at fb hnF
 obtain ⟨f0, f1, f2, f3⟩ := fb
 have E1 : ExtB η.nx η (((η.new (.live false [z.z1, z.z2, z.z3, z.z4, z.z5, z.z6])).new (.live false [.int .i64 0, .int .i64 0, .int .i64 0, .int .i64 0])).put (η.nx + 1) (.live false [.int .i64 op, .int .i64 a, .int .i64 b, .int .i64 c])) := extP (extN (extN (.refl _ _)))
 have n1 : (((η.new (.live false [z.z1, z.z2, z.z3, z.z4, z.z5, z.z6])).new (.live false [.int .i64 0, .int .i64 0, .int .i64 0, .int .i64 0])).put (η.nx + 1) (.live false [.int .i64 op, .int .i64 a, .int .i64 b, .int .i64 c])).nx = η.nx + 2 := rfl
 have x1 : (((η.new (.live false [z.z1, z.z2, z.z3, z.z4, z.z5, z.z6])).new (.live false [.int .i64 0, .int .i64 0, .int .i64 0, .int .i64 0])).put (η.nx + 1) (.live false [.int .i64 op, .int .i64 a, .int .i64 b, .int .i64 c])).f η.nx = .live false z.cells := by
  show (if η.nx = η.nx + 1 then _ else if η.nx = η.nx + 1 then _ else if η.nx = η.nx then _ else _) = _; rw [if_neg (by omega), if_neg (by omega), if_pos rfl]
 have x2 : (((η.new (.live false [z.z1, z.z2, z.z3, z.z4, z.z5, z.z6])).new (.live false [.int .i64 0, .int .i64 0, .int .i64 0, .int .i64 0])).put (η.nx + 1) (.live false [.int .i64 op, .int .i64 a, .int .i64 b, .int .i64 c])).f (η.nx + 1) = .live false [.int .i64 op, .int .i64 a, .int .i64 b, .int .i64 c] := by
  show (if η.nx + 1 = η.nx + 1 then _ else _) = _; rw [if_pos rfl]
 simp -implicitDefEqProofs (disch := omega) only [go_sem, z6e, hbc, hrc]
 rw [← z6e]
 generalize (((η.new (.live false [z.z1, z.z2, z.z3, z.z4, z.z5, z.z6])).new (.live false [.int .i64 0, .int .i64 0, .int .i64 0, .int .i64 0])).put (η.nx + 1) (.live false [.int .i64 op, .int .i64 a, .int .i64 b, .int .i64 c])) = η1 at *
 clear hbc hrc
 refine thenN_call (name_then U f0 fun n w η2 E2 hnn hw => ?_)
 have E12 := extT E1 E2
 have x12 := (E2.2 _ (by omega)).trans x1
 have x22 := (E2.2 _ (by omega)).trans x2
 have n2 := E2.1
 by_cases h21 : op < 21
 ·obtain ⟨n, rfl⟩ : ∃ n', n = n' + 1 := ⟨n - 1, by have : ¬ n = 0 := fun e => hnn.1 e h21; omega⟩
  have hse : strEq (n + 1) w 0 0 = false := rfl
  simp -implicitDefEqProofs (disch := omega) only [go_sem, hse, x22]
  refine thenN_call (hcs ▸ readsD_then U (i := ⟨op, a, b, c⟩) f0 fun v3 η3 E3 r3 => ?_)
  have E13 := extT E12 E3
  have x13 := (E3.2 _ (by omega)).trans x12
  have x23 := (E3.2 _ (by omega)).trans x22
  have n3 := E3.1
  simp -implicitDefEqProofs (disch := omega) only [go_sem]
  have l7 := rdI_len r3 (by omega)
  refine wpN_loop (naI η3 η.nx (η.nx + 1) pc v3 (readsD ⟨op, a, b, c⟩) p.slots) (readsD ⟨op, a, b, c⟩).length ⟨rfl, 0, by omega, by omega, rfl, rfl, rfl, rfl, rfl, by simp⟩ ?_
  rintro m φ η4 ⟨rfl, k, hm, hk, p1, p2, p5, p6, p7, hall⟩
  by_cases hlt : k < (readsD ⟨op, a, b, c⟩).length
  ·obtain ⟨bq, offq, capq, roq, rowq, v3e, hbq, hbqn, hrq⟩ := r3.at hlt
   rw [v3e] at p6
   simp -implicitDefEqProofs (disch := omega) only [go_sem, p1, p2, p5, p6, p7, x13, x23, hbq, hrq, l3]
   refine dE_call ⟨_, _, in_call U _ p.slots _ (hrlt _ (List.getElem_mem hlt)) hf.slots.1, ?_⟩
   cases hx : has p.slots (readsD ⟨op, a, b, c⟩)[k] with
   | false =>
    have hna : (readsD ⟨op, a, b, c⟩).all (has p.slots) = false := by
     cases hq : (readsD ⟨op, a, b, c⟩).all (has p.slots) with
     | false => rfl
     | true => rw [List.all_eq_true] at hq; rw [hq _ (List.getElem_mem hlt)] at hx; cases hx
    rw [hna, Bool.false_and, Bool.and_false] at hnF
    simp -implicitDefEqProofs (disch := omega) only [go_sem, Bool.not_false]
    have := h _ E13
    rw [← hnF] at this
    exact this
   | true =>
    simp -implicitDefEqProofs (disch := omega) only [go_sem, Bool.not_true, p7]
    exact ⟨_, by omega, rfl, k + 1, rfl, by omega, p1, p2, p5, v3e ▸ p6, rfl, all_take hall hlt hx⟩
  have hall2 : (readsD ⟨op, a, b, c⟩).all (has p.slots) = true := by
   rw [List.all_eq_true]; intro x hx; exact hall x (by rw [List.take_of_length_le (by omega)]; exact hx)
  have hke : k = (readsD ⟨op, a, b, c⟩).length := by omega
  rw [hall2, decide_eq_true h21, Bool.true_and, Bool.true_and] at hnF
  unfold ownF specF at hnF
  dsimp only at hnF
  have key : ∀ {v : Bool}, v = thereF p pc ⟨op, a, b, c⟩ → Q (.bool v) η4 := fun e => by rw [e]; exact h _ E13
  clear h
  subst hke
  by_cases q3 : op = 3
  ·subst q3
   simp -implicitDefEqProofs (disch := omega) only [go_sem, p1, p2, p5, p6, p7, x13, x23, l1, l2, l3, l4, l5, l6, l7]
   refine thenN_call ⟨_, _, in_call U _ p.mems _ f1 hf.mems.1, ?_⟩
   simp -implicitDefEqProofs (disch := omega) only [go_sem]
   exact key hnF
  by_cases q5 : op = 5
  ·subst q5
   simp -implicitDefEqProofs (disch := omega) only [go_sem, p1, p2, p5, p6, p7, x13, x23, l1, l2, l3, l4, l5, l6, l7]
   refine thenN_call ⟨_, _, in_call U _ p.outs _ f1 hf.outs.1, ?_⟩
   simp -implicitDefEqProofs (disch := omega) only [go_sem]
   exact key hnF
  by_cases q19 : op = 19
  ·subst q19
   have hnF : targetF p pc a = thereF p pc ⟨19, a, b, c⟩ := hnF
   unfold targetF at hnF
   by_cases t0 : 9223372036854775807 < a
   ·have hl := ltN_negr (a := pc) (by omega) t0
    rw [decide_eq_false (show ¬ a ≤ p.code.length by omega), Bool.and_false] at hnF
    simp -implicitDefEqProofs (disch := omega) only [go_sem, p1, p2, p5, p6, p7, x13, x23, l1, l2, l3, l4, l5, l6, l7, hl]
    exact key hnF
   by_cases t1 : pc < a
   ·rw [decide_eq_true t1, Bool.true_and] at hnF
    by_cases t2 : a ≤ p.code.length
    ·rw [decide_eq_true t2] at hnF
     simp -implicitDefEqProofs (disch := omega) only [go_sem, p1, p2, p5, p6, p7, x13, x23, l1, l2, l3, l4, l5, l6, l7, Bool.not_false]
     exact key hnF
    ·rw [decide_eq_false t2] at hnF
     simp -implicitDefEqProofs (disch := omega) only [go_sem, p1, p2, p5, p6, p7, x13, x23, l1, l2, l3, l4, l5, l6, l7, Bool.not_true]
     exact key hnF
   ·rw [decide_eq_false t1, Bool.false_and] at hnF
    simp -implicitDefEqProofs (disch := omega) only [go_sem, p1, p2, p5, p6, p7, x13, x23, l1, l2, l3, l4, l5, l6, l7]
    exact key hnF
  by_cases q20 : op = 20
  ·subst q20
   have hnF : targetF p pc a = thereF p pc ⟨20, a, b, c⟩ := hnF
   unfold targetF at hnF
   by_cases t0 : 9223372036854775807 < a
   ·have hl := ltN_negr (a := pc) (by omega) t0
    rw [decide_eq_false (show ¬ a ≤ p.code.length by omega), Bool.and_false] at hnF
    simp -implicitDefEqProofs (disch := omega) only [go_sem, p1, p2, p5, p6, p7, x13, x23, l1, l2, l3, l4, l5, l6, l7, hl]
    exact key hnF
   by_cases t1 : pc < a
   ·rw [decide_eq_true t1, Bool.true_and] at hnF
    by_cases t2 : a ≤ p.code.length
    ·rw [decide_eq_true t2] at hnF
     simp -implicitDefEqProofs (disch := omega) only [go_sem, p1, p2, p5, p6, p7, x13, x23, l1, l2, l3, l4, l5, l6, l7, Bool.not_false]
     exact key hnF
    ·rw [decide_eq_false t2] at hnF
     simp -implicitDefEqProofs (disch := omega) only [go_sem, p1, p2, p5, p6, p7, x13, x23, l1, l2, l3, l4, l5, l6, l7, Bool.not_true]
     exact key hnF
   ·rw [decide_eq_false t1, Bool.false_and] at hnF
    simp -implicitDefEqProofs (disch := omega) only [go_sem, p1, p2, p5, p6, p7, x13, x23, l1, l2, l3, l4, l5, l6, l7]
    exact key hnF
  rw [if_neg (show ¬ (op = 3 ∨ op = 5 ∨ 19 ≤ op) by omega)] at hnF
  simp -implicitDefEqProofs (disch := omega) only [go_sem, p1, p2, p5, p6, p7, x13, x23, l1, l2, l3, l4, l5, l6, l7, Bool.not_false]
  refine thenN_call ⟨_, _, in_call U _ p.slots _ f1 hf.slots.1, ?_⟩
  cases hx : has p.slots a with
  | false =>
   rw [hx, Bool.false_and] at hnF
   simp -implicitDefEqProofs (disch := omega) only [go_sem, Bool.not_false]
   exact key hnF
  | true =>
  rw [hx, Bool.true_and] at hnF
  by_cases q0 : op = 0
  ·subst q0
   simp -implicitDefEqProofs (disch := omega) only [go_sem, p1, p2, p5, p6, p7, x13, x23, l1, l2, l3, l4, l5, l6, l7, Bool.not_true]
   refine thenN_call ⟨_, _, in_call U _ p.consts _ f2 hf.consts.1, ?_⟩
   simp -implicitDefEqProofs (disch := omega) only [go_sem]
   exact key hnF
  by_cases q2 : op = 2
  ·subst q2
   simp -implicitDefEqProofs (disch := omega) only [go_sem, p1, p2, p5, p6, p7, x13, x23, l1, l2, l3, l4, l5, l6, l7, Bool.not_true]
   refine thenN_call ⟨_, _, in_call U _ p.mems _ f2 hf.mems.1, ?_⟩
   simp -implicitDefEqProofs (disch := omega) only [go_sem]
   exact key hnF
  by_cases q4 : op = 4
  ·subst q4
   simp -implicitDefEqProofs (disch := omega) only [go_sem, p1, p2, p5, p6, p7, x13, x23, l1, l2, l3, l4, l5, l6, l7, Bool.not_true]
   refine thenN_call ⟨_, _, in_call U _ p.ins _ f2 hf.ins.1, ?_⟩
   simp -implicitDefEqProofs (disch := omega) only [go_sem]
   exact key hnF
  rw [if_neg q0, if_neg q2, if_neg q3, if_neg q4, if_neg q5, if_neg (by omega)] at hnF
  simp -implicitDefEqProofs (disch := omega) only [go_sem, p1, p2, p5, p6, p7, x13, x23, l1, l2, l3, l4, l5, l6, l7, Bool.not_true]
  exact key hnF
 ·have hn0 := hnn.2 h21
  have hw0 := hw hn0
  subst hn0 hw0
  have hse : strEq 0 0 0 0 = true := rfl
  rw [decide_eq_false h21, Bool.false_and] at hnF
  simp -implicitDefEqProofs (disch := omega) only [go_sem, hse]
  have := h η2 E12
  rw [← hnF] at this
  exact this
end Go.Proofs.Ytjljolnhmmbkoaa
