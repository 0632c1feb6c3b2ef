/- What is proved: what was written at each place, held in the heap; a way that comes to a place. Conditions: none. -/
import Derived.Test.YtjljolnhmmbkoaaValid13
import Derived.Test.YtjljolnhmmbkoaaPlain2
set_option linter.unusedVariables false
set_option linter.unusedSimpArgs false
set_option linter.unusedSectionVars false
namespace Go.Proofs.Ytjljolnhmmbkoaa
open Go.Eng Go.Plain
set_option autoImplicit false
set_option maxRecDepth 100000
variable {nat : ∀ [Deep], Nats}
def SetAt (η : HN) (T : Nat → Nat) (B t : Nat) (v : AV) (ws : List Nat) : Prop := ∃ b cap, v = .slice b 0 ws.length cap ∧ B ≤ b ∧ b < η.nx ∧ T b = t ∧ η.f b = .live false (u64s ws)
def DAt (η : HN) (T : Nat → Nat) (B k : Nat) (v1 v2 : AV) (d : List Bool × List Bool) : Prop := ∃ w1 w2, SetW w1 d.1 ∧ SetW w2 d.2 ∧ SetAt η T B (2 * k + 1) v1 w1 ∧ SetAt η T B (2 * k + 2) v2 w2
def PlAt (η : HN) (T : Nat → Nat) (B q : Nat) (row : List AV) (x : St) : Prop := match x with
  | none => row[q * 3]? = some (.bool false)
  | some d => row[q * 3]? = some (.bool true) ∧ ∃ v1 v2, row[q * 3 + 1]? = some v1 ∧ row[q * 3 + 2]? = some v2 ∧ DAt η T B q v1 v2 d
structure Places (η : HN) (T : Nat → Nat) (B bl n lo : Nat) (st : Nat → St) (S O : Nat) : Prop where
  row : ∃ row, η.f bl = .live false row ∧ row.length = (n + 1) * 3 ∧ ∀ q, lo ≤ q → q ≤ n → PlAt η T B q row (st q)
  len : ∀ q d, lo ≤ q → st q = some d → d.1.length = S ∧ d.2.length = O
  bl : B ≤ bl ∧ bl < η.nx ∧ T bl = 0
  fresh : ∀ b, η.nx ≤ b → T b = 0
structure Kp (T : Nat → Nat) (bl : Nat) (η η' : HN) (T' : Nat → Nat) : Prop where
  nx : η.nx ≤ η'.nx
  tag : ∀ b, b < η.nx → T' b = T b
  keep : ∀ b, b < η.nx → T b = 0 → b ≠ bl → η'.f b = η.f b
theorem Kp.trans {T T' T'' : Nat → Nat} {bl : Nat} {η η' η'' : HN} (h : Kp T bl η η' T') (k : Kp T' bl η' η'' T'') : Kp T bl η η'' T'' :=
  ⟨Nat.le_trans h.nx k.nx, fun b hb => (k.tag b (Nat.lt_of_lt_of_le hb h.nx)).trans (h.tag b hb), fun b hb ht hbl => (k.keep b (Nat.lt_of_lt_of_le hb h.nx) ((h.tag b hb).trans ht) hbl).trans (h.keep b hb ht hbl)⟩
theorem Kp.ofExt {T : Nat → Nat} {bl : Nat} {η η' : HN} (h : ExtB η.nx η η') : Kp T bl η η' T := ⟨h.1, fun _ _ => rfl, fun b hb _ _ => h.2 b hb⟩
/-- blocks that bear a tag are as they were -/
theorem SetAt.of {η η' : HN} {T T' : Nat → Nat} {B t : Nat} {v : AV} {ws : List Nat} (h : SetAt η T B t v ws) (hn : η.nx ≤ η'.nx) (hT : ∀ b, b < η.nx → T' b = T b) (hk : ∀ b, b < η.nx → T b = t → η'.f b = η.f b) : SetAt η' T' B t v ws := by
  obtain ⟨b, cap, h1, h2, h3, h4, h5⟩ := h
  exact ⟨b, cap, h1, h2, by omega, (hT b h3).trans h4, (hk b h3 h4).trans h5⟩
theorem DAt.of {η η' : HN} {T T' : Nat → Nat} {B k : Nat} {v1 v2 : AV} {d : List Bool × List Bool} (h : DAt η T B k v1 v2 d) (hn : η.nx ≤ η'.nx) (hT : ∀ b, b < η.nx → T' b = T b) (hk : ∀ b, b < η.nx → (T b = 2 * k + 1 ∨ T b = 2 * k + 2) → η'.f b = η.f b) : DAt η' T' B k v1 v2 d := by
  obtain ⟨w1, w2, h1, h2, h3, h4⟩ := h
  exact ⟨w1, w2, h1, h2, h3.of hn hT fun b hb ht => hk b hb (.inl ht), h4.of hn hT fun b hb ht => hk b hb (.inr ht)⟩
theorem PlAt.of {η η' : HN} {T T' : Nat → Nat} {B q : Nat} {row row' : List AV} {x : St} (h : PlAt η T B q row x) (hr : ∀ i, i < 3 → row'[q * 3 + i]? = row[q * 3 + i]?) (hn : η.nx ≤ η'.nx) (hT : ∀ b, b < η.nx → T' b = T b) (hk : ∀ b, b < η.nx → (T b = 2 * q + 1 ∨ T b = 2 * q + 2) → η'.f b = η.f b) : PlAt η' T' B q row' x := by
  have r0 := hr 0 (by omega)
  rw [Nat.add_zero] at r0
  cases x with
  | none => exact r0.trans h
  | some d =>
    obtain ⟨h1, v1, v2, h2, h3, h4⟩ := h
    exact ⟨r0.trans h1, v1, v2, (hr 1 (by omega)).trans h2, (hr 2 (by omega)).trans h3, h4.of hn hT hk⟩
theorem Places.ext {η η' : HN} {T : Nat → Nat} {B bl n lo S O : Nat} {st : Nat → St} (h : Places η T B bl n lo st S O) (e : ExtB η.nx η η') : Places η' T B bl n lo st S O := by
  obtain ⟨row, h1, h2, h3⟩ := h.row
  exact ⟨⟨row, (e.2 _ h.bl.2.1).trans h1, h2, fun q a b => (h3 q a b).of (fun _ _ => rfl) e.1 (fun _ _ => rfl) fun b hb _ => e.2 b hb⟩, h.len, ⟨h.bl.1, Nat.lt_of_lt_of_le h.bl.2.1 e.1, h.bl.2.2⟩, fun b hb => h.fresh b (Nat.le_trans e.1 hb)⟩
theorem Places.up {η : HN} {T : Nat → Nat} {B bl n lo S O : Nat} {st : Nat → St} (h : Places η T B bl n lo st S O) : Places η T B bl n (lo + 1) st S O := by
  obtain ⟨row, h1, h2, h3⟩ := h.row
  exact ⟨⟨row, h1, h2, fun q a b => h3 q (by omega) b⟩, fun q d hq => h.len q d (by omega), h.bl, h.fresh⟩
theorem set3 {row : List AV} {i j : Nat} {x y z : AV} (h : j < i ∨ i + 3 ≤ j) : (setsL row i [x, y, z])[j]? = row[j]? := by
  show (((row.set i x).set (i + 1) y).set (i + 1 + 1) z)[j]? = _
  rw [List.getElem?_set_ne (by omega), List.getElem?_set_ne (by omega), List.getElem?_set_ne (by omega)]
theorem set3_at {row : List AV} {i : Nat} {x y z : AV} (h : i + 3 ≤ row.length) : (setsL row i [x, y, z])[i]? = some x ∧ (setsL row i [x, y, z])[i + 1]? = some y ∧ (setsL row i [x, y, z])[i + 2]? = some z := by
  show (((row.set i x).set (i + 1) y).set (i + 2) z)[i]? = _ ∧ (((row.set i x).set (i + 1) y).set (i + 2) z)[i + 1]? = _ ∧ (((row.set i x).set (i + 1) y).set (i + 2) z)[i + 2]? = _
  refine ⟨?_, ?_, ?_⟩
  · rw [List.getElem?_set_ne (by omega), List.getElem?_set_ne (by omega), List.getElem?_set_self (by omega)]
  · rw [List.getElem?_set_ne (by omega), List.getElem?_set_self (by simp; omega)]
  · rw [List.getElem?_set_self (by simp; omega)]
theorem meet_places (U : Usual nat) {η : HN} {T : Nat → Nat} {B bl n lo S O k q : Nat} {st : Nat → St} {v1 v2 : AV} {d : List Bool × List Bool} (h : Places η T B bl n lo st S O) (hd : DAt η T B k v1 v2 d) (hl : d.1.length = S ∧ d.2.length = O) (hk : k ≠ q) (hq : lo ≤ q) (hqn : q ≤ n) (hS : S ≤ 1099511627776) (hO : O ≤ 1099511627776) :
    ∃ v η', CallN Try.prog nat 83 [.ptr bl (q * 3), .agg [.bool true, v1, v2]] η v η' ∧ ∃ T', Places η' T' B bl n lo (setF st q (meetF (st q) d)) S O ∧ DAt η' T' B k v1 v2 d ∧ Kp T bl η η' T' := by
  obtain ⟨row, r1, r2, r3⟩ := h.row
  obtain ⟨w1, w2, s1, s2, ⟨b1, cap1, rfl, p1, p2, p3, p4⟩, ⟨b2, cap2, rfl, q1, q2, q3, q4⟩⟩ := hd
  have hrow := r3 q hq hqn
  have m1 : w1.length ≤ 1099511627776 := by have := s1.len; omega
  have m2 : w2.length ≤ 1099511627776 := by have := s2.len; omega
  cases hx : st q with
  | none =>
    rw [hx] at hrow
    have hrow : row[q * 3]? = some (.bool false) := hrow
    obtain ⟨v, η', kk, c1, c2, k1, k2, η2, rfl, E, g1, g2, g3, g4, g5⟩ := meet_none U η bl (q * 3) row b1 b2 cap1 cap2 w1 w2 .nilslice .nilslice r1 h.bl.2.1 (by omega) hrow p4 p2 q4 q2 m1 m2
    have hbl := h.bl
    have hn2 : (η2.put bl (.live false (setsL row (q * 3) [.bool true, .slice c1 0 w1.length k1, .slice c2 0 w2.length k2]))).nx = η2.nx := rfl
    have e1 := E.1
    have hne : ∀ b, b ≠ bl → (η2.put bl (.live false (setsL row (q * 3) [.bool true, .slice c1 0 w1.length k1, .slice c2 0 w2.length k2]))).f b = η2.f b := fun b hb => by show (if b = bl then _ else _) = _; rw [if_neg hb]
    have hT : ∀ b, b < η.nx → (fun b => if b = c1 then 2 * q + 1 else if b = c2 then 2 * q + 2 else T b) b = T b := fun b hb => by dsimp only; rw [if_neg (by omega), if_neg (by omega)]
    have hkeep : ∀ b, b < η.nx → b ≠ bl → (η2.put bl (.live false (setsL row (q * 3) [.bool true, .slice c1 0 w1.length k1, .slice c2 0 w2.length k2]))).f b = η.f b := fun b hb hbb => (hne b hbb).trans (E.2 b hb)
    obtain ⟨a1, a2, a3⟩ := set3_at (x := .bool true) (y := .slice c1 0 w1.length k1) (z := .slice c2 0 w2.length k2) (show q * 3 + 3 ≤ row.length by omega)
    refine ⟨v, _, kk, fun b => if b = c1 then 2 * q + 1 else if b = c2 then 2 * q + 2 else T b, ⟨⟨_, by show (if bl = bl then _ else _) = _; rw [if_pos rfl], by show (setsL _ _ _).length = _; rw [setsL_length]; exact r2, fun q' hq1 hq2 => ?_⟩, fun q' d' hq' hd' => ?_, ⟨hbl.1, by omega, by rw [if_neg (by omega), if_neg (by omega)]; exact hbl.2.2⟩, fun b hb => by rw [if_neg (by omega), if_neg (by omega)]; exact h.fresh b (by omega)⟩, ?_, ⟨by omega, hT, fun b hb _ hbb => hkeep b hb hbb⟩⟩
    · by_cases hqq : q' = q
      · subst hqq
        show PlAt _ _ _ _ _ (if q' = q' then _ else _)
        rw [if_pos rfl]
        refine ⟨a1, _, _, a2, a3, w1, w2, s1, s2, ⟨c1, k1, rfl, by omega, by omega, if_pos rfl, (hne c1 (by omega)).trans g4⟩, ⟨c2, k2, rfl, by omega, by omega, ?_, (hne c2 (by omega)).trans g5⟩⟩
        show (if c2 = c1 then _ else if c2 = c2 then _ else _) = _
        rw [if_neg (by omega), if_pos rfl]
      · show PlAt _ _ _ _ _ (if q' = q then _ else _)
        rw [if_neg hqq]
        exact (r3 q' hq1 hq2).of (fun i hi => set3 (by omega)) (by omega) hT fun b hb ht => hkeep b hb fun e => by have := hbl.2.2; rw [e] at ht; omega
    · have hd' : (if q' = q then some (meetF none d) else st q') = some d' := hd'
      by_cases hqq : q' = q
      · rw [if_pos hqq] at hd'
        cases hd'
        exact hl
      · rw [if_neg hqq] at hd'
        exact h.len q' d' hq' hd'
    · refine DAt.of ⟨w1, w2, s1, s2, ⟨b1, cap1, rfl, p1, p2, p3, p4⟩, ⟨b2, cap2, rfl, q1, q2, q3, q4⟩⟩ (by omega) hT fun b hb ht => hkeep b hb fun e => by have := hbl.2.2; rw [e] at ht; omega
  | some d0 =>
    rw [hx] at hrow
    obtain ⟨t1, u1, u2, t2, t3, x1, x2, y1, y2, ⟨bs, caps, rfl, z1, z2, z3, z4⟩, ⟨bo, capo, rfl, o1, o2, o3, o4⟩⟩ := hrow
    obtain ⟨l1, l2⟩ := h.len q d0 hq hx
    have e1 : x1.length = w1.length := by rw [y1.len, s1.len, l1, hl.1]
    have e2 : x2.length = w2.length := by rw [y2.len, s2.len, l2, hl.2]
    have hbl := h.bl
    have nb : ∀ {b c : Nat}, T b ≠ T c → b ≠ c := fun hne e => hne (by rw [e])
    obtain ⟨v, η', kk, η2, rfl, E⟩ := meet_some U η bl (q * 3) row bs bo caps capo x1 x2 b1 b2 cap1 cap2 w1 w2 r1 hbl.2.1 (by omega) t1 t2 t3 z4 o4 z2 o2 p4 p2 q4 q2 e1 e2 (by omega) (by omega)
      (nb (by omega)) (nb (by omega)) (nb (by omega)) (nb (by omega)) (nb (by omega)) (nb (by omega))
    have hne : ∀ b, b < η.nx → T b ≠ 2 * q + 1 → T b ≠ 2 * q + 2 → ((η2.put bs (.live false (u64s (andW x1 w1)))).put bo (.live false (u64s (andW x2 w2)))).f b = η.f b := fun b hb h1 h2 => by
      show (if b = bo then _ else if b = bs then _ else _) = _
      rw [if_neg (nb (by omega)), if_neg (nb (by omega))]
      exact E.2 b hb
    have hnx : ((η2.put bs (.live false (u64s (andW x1 w1)))).put bo (.live false (u64s (andW x2 w2)))).nx = η2.nx := rfl
    have e3 := E.1
    refine ⟨v, _, kk, T, ⟨⟨row, (hne bl hbl.2.1 (by omega) (by omega)).trans r1, r2, fun q' hq1 hq2 => ?_⟩, fun q' d' hq' hd' => ?_, ⟨hbl.1, by omega, hbl.2.2⟩, fun b hb => h.fresh b (by omega)⟩, ?_, ⟨by omega, fun _ _ => rfl, fun b hb ht _ => hne b hb (by omega) (by omega)⟩⟩
    · by_cases hqq : q' = q
      · subst hqq
        show PlAt _ _ _ _ _ (if q' = q' then _ else _)
        rw [if_pos rfl]
        have a1 : (andW x1 w1).length = x1.length := andW_len e1
        have a2 : (andW x2 w2).length = x2.length := andW_len e2
        refine ⟨t1, _, _, t2, t3, andW x1 w1, andW x2 w2, setW_and y1 s1 (by rw [l1, hl.1]), setW_and y2 s2 (by rw [l2, hl.2]), ⟨bs, caps, by rw [a1], by omega, by omega, z3, ?_⟩, ⟨bo, capo, by rw [a2], by omega, by omega, o3, ?_⟩⟩
        · show (if bs = bo then _ else if bs = bs then _ else _) = _
          rw [if_neg (nb (by omega)), if_pos rfl]
        · show (if bo = bo then _ else _) = _
          rw [if_pos rfl]
      · show PlAt _ _ _ _ _ (if q' = q then _ else _)
        rw [if_neg hqq]
        exact (r3 q' hq1 hq2).of (fun _ _ => rfl) (by omega) (fun _ _ => rfl) fun b hb ht => hne b hb (by omega) (by omega)
    · have hd' : (if q' = q then some (meetF (some d0) d) else st q') = some d' := hd'
      by_cases hqq : q' = q
      · rw [if_pos hqq] at hd'
        cases hd'
        show (List.zipWith _ _ _).length = S ∧ (List.zipWith _ _ _).length = O
        rw [List.length_zipWith, List.length_zipWith, l1, l2, hl.1, hl.2]
        omega
      · rw [if_neg hqq] at hd'
        exact h.len q' d' hq' hd'
    · refine DAt.of ⟨w1, w2, s1, s2, ⟨b1, cap1, rfl, p1, p2, p3, p4⟩, ⟨b2, cap2, rfl, q1, q2, q3, q4⟩⟩ (by omega) (fun _ _ => rfl) fun b hb ht => hne b hb (by omega) (by omega)
end Go.Proofs.Ytjljolnhmmbkoaa
