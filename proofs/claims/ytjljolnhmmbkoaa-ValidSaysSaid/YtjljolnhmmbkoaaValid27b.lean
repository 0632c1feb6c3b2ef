/- What is proved: what was written at each place, as the document's own check holds it. Conditions: none. -/
import Derived.Test.YtjljolnhmmbkoaaValid27
set_option linter.unusedVariables false
set_option linter.unusedSimpArgs false
set_option linter.unusedSectionVars false
namespace Go.Plain
/-- the meets of an instruction, in the document's order -/
theorem go_order (i : Ins) (pc : Nat) (st : Nat → St) (d : List Bool × List Bool) : goF i pc st d = (let st1 := if i.op ≠ 20 then setF st (pc + 1) (meetF (st (pc + 1)) d) else st; if i.op = 19 ∨ i.op = 20 then setF st1 i.a (meetF (st1 i.a) d) else st1) := by
  unfold goF
  dsimp only
  by_cases h20 : i.op = 20
  · simp [h20]
  · by_cases h19 : i.op = 19
    · simp only [h19, true_or, if_true, ne_eq, not_false_eq_true, reduceCtorEq, Nat.reduceEqDiff, if_false]
      by_cases ha : i.a = pc + 1
      · rw [ha]
      · have e1 : setF st i.a (meetF (st i.a) d) (pc + 1) = st (pc + 1) := if_neg (fun e => ha e.symm)
        have e2 : setF st (pc + 1) (meetF (st (pc + 1)) d) i.a = st i.a := if_neg ha
        rw [e1, e2]
        funext q
        unfold setF
        by_cases h1 : q = pc + 1
        · rw [if_pos h1, if_neg (by omega), if_pos h1]
        · rw [if_neg h1]
          by_cases h2 : q = i.a
          · rw [if_pos h2, if_pos h2]
          · rw [if_neg h2, if_neg h2, if_neg h1]
    · simp [h19, h20]
end Go.Plain
namespace Go.Proofs.Ytjljolnhmmbkoaa
open Go.Eng Go.Plain
set_option autoImplicit false
set_option maxRecDepth 100000
variable {nat : ∀ [Deep], Nats}
def PlD (η : HN) (bl L : Nat) (row : List AV) (q : Nat) (x : St) : Prop := match x with
  | none => row[q]? = some .nilslice
  | some d => ∃ b cap, row[q]? = some (.slice b 0 L cap) ∧ b ≠ bl ∧ b < η.nx ∧ η.f b = .live false (boolsA (d.1 ++ d.2))
theorem PlD.of {η η' : HN} {bl L : Nat} {row row' : List AV} {q : Nat} {x : St} (h : PlD η bl L row q x) (hr : row'[q]? = row[q]?) (hn : η.nx ≤ η'.nx) (hk : ∀ b, b < η.nx → b ≠ bl → η'.f b = η.f b) : PlD η' bl L row' q x := by
  cases x with
  | none => exact hr.trans h
  | some d =>
    obtain ⟨b, cap, h1, h2, h3, h4⟩ := h
    exact ⟨b, cap, hr.trans h1, h2, by omega, (hk b h3 h2).trans h4⟩
structure DoneAt (η : HN) (bl n lo S O : Nat) (row : List AV) (st : Nat → St) : Prop where
  blk : η.f bl = .live false row
  len : row.length = n + 1
  at_ : ∀ q, lo ≤ q → q ≤ n → PlD η bl (S + O) row q (st q)
  lens : ∀ q d, lo ≤ q → st q = some d → d.1.length = S ∧ d.2.length = O
  bl : bl < η.nx
theorem DoneAt.up {η : HN} {bl n lo S O : Nat} {row : List AV} {st : Nat → St} (h : DoneAt η bl n lo S O row st) : DoneAt η bl n (lo + 1) S O row st :=
  ⟨h.blk, h.len, fun q a b => h.at_ q (by omega) b, fun q d a => h.lens q d (by omega), h.bl⟩
theorem DoneAt.ext {η η' : HN} {bl n lo S O : Nat} {row : List AV} {st : Nat → St} (h : DoneAt η bl n lo S O row st) (e : ExtB η.nx η η') : DoneAt η' bl n lo S O row st :=
  ⟨(e.2 _ h.bl).trans h.blk, h.len, fun q a b => (h.at_ q a b).of rfl e.1 fun x hx _ => e.2 x hx, h.lens, by have := e.1; have := h.bl; omega⟩
theorem bothD (U : Usual nat) {η : HN} {bl n lo S O q c : Nat} {cap : Cp} {row : List AV} {st : Nat → St} {d : List Bool × List Bool} (h : DoneAt η bl n lo S O row st) (hq : lo ≤ q) (hqn : q ≤ n) (hd : d.1.length = S ∧ d.2.length = O) (hc : η.f c = .live false (boolsA (d.1 ++ d.2))) (hcn : c < η.nx) (hL : S + O ≤ 1099511627776) :
    ∃ rv, row[q]? = some rv ∧ (∀ {Q : AV → HN → Prop}, (∀ b cap' η', ExtB η.nx η η' → b < η'.nx → DoneAt (η'.put bl (.live false (row.set q (.slice b 0 (S + O) cap')))) bl n lo S O (row.set q (.slice b 0 (S + O) cap')) (setF st q (meetF (st q) d)) → Q (.slice b 0 (S + O) cap') η') →
      ∃ v η', CallN Try.prog nat 50 [rv, .slice c 0 (S + O) cap] η v η' ∧ Q v η') := by
  have hbl := h.bl
  have hlen := h.len
  have dl : (d.1 ++ d.2).length = S + O := by rw [List.length_append, hd.1, hd.2]
  have fin : ∀ (b : Nat) (cap' : Cp) (η' : HN), ExtB η.nx η η' → η.nx ≤ b → b < η'.nx → η'.f b = .live false (boolsA ((meetF (st q) d).1 ++ (meetF (st q) d).2)) → DoneAt (η'.put bl (.live false (row.set q (.slice b 0 (S + O) cap')))) bl n lo S O (row.set q (.slice b 0 (S + O) cap')) (setF st q (meetF (st q) d)) := fun b cap' η' E h1 h2 h3 => by
    have e1 := E.1
    have hne : ∀ x, x ≠ bl → (η'.put bl (.live false (row.set q (.slice b 0 (S + O) cap')))).f x = η'.f x := fun x hx => by show (if x = bl then _ else _) = _; rw [if_neg hx]
    refine ⟨by show (if bl = bl then _ else _) = _; rw [if_pos rfl], by rw [List.length_set]; exact hlen, fun q' a1 a2 => ?_, fun q' e a1 he => ?_, by show bl < η'.nx; omega⟩
    · by_cases hqq : q' = q
      · subst hqq
        show PlD _ _ _ _ _ (if q' = q' then _ else _)
        rw [if_pos rfl]
        exact ⟨b, cap', List.getElem?_set_self (by omega), by omega, h2, (hne b (by omega)).trans h3⟩
      · show PlD _ _ _ _ _ (if q' = q then _ else _)
        rw [if_neg hqq]
        exact (h.at_ q' a1 a2).of (List.getElem?_set_ne (fun e => hqq e.symm)) (by show η.nx ≤ η'.nx; omega) fun x hx hxb => (hne x hxb).trans (E.2 x hx)
    · have he : (if q' = q then some (meetF (st q) d) else st q') = some e := he
      by_cases hqq : q' = q
      · rw [if_pos hqq] at he
        cases he
        cases hs : st q with
        | none => exact hd
        | some y =>
          obtain ⟨l1, l2⟩ := h.lens q y hq hs
          show (List.zipWith _ _ _).length = S ∧ (List.zipWith _ _ _).length = O
          rw [List.length_zipWith, List.length_zipWith, l1, l2, hd.1, hd.2]
          omega
      · rw [if_neg hqq] at he
        exact h.lens q' e a1 he
  have hp := h.at_ q hq hqn
  cases hs : st q with
  | none =>
    rw [hs] at hp fin
    refine ⟨.nilslice, hp, fun {Q} k => ?_⟩
    have := both_nil U (cap := cap) (Q := Q) hc hcn (by omega) fun b cap' η' h1 h2 h3 E => by rw [dl]; exact k b cap' η' E h2 (fin b cap' η' E h1 h2 h3)
    rw [dl] at this
    exact this
  | some y =>
    rw [hs] at hp fin
    obtain ⟨b0, cap0, r1, r2, r3, r4⟩ := hp
    obtain ⟨l1, l2⟩ := h.lens q y hq hs
    have yl : (y.1 ++ y.2).length = S + O := by rw [List.length_append, l1, l2]
    refine ⟨_, r1, fun {Q} k => ?_⟩
    have hz : List.zipWith and (y.1 ++ y.2) (d.1 ++ d.2) = List.zipWith and y.1 d.1 ++ List.zipWith and y.2 d.2 := List.zipWith_append (by rw [l1, hd.1])
    have := both_some U (cap := cap0) (cap2 := cap) (Q := Q) r4 r3 hc hcn (by omega) (by omega) fun b cap' η' h1 h2 h3 E => by rw [yl]; rw [hz] at h3; exact k b cap' η' E h2 (fin b cap' η' E h1 h2 h3)
    rw [yl, dl] at this
    exact this
end Go.Proofs.Ytjljolnhmmbkoaa
