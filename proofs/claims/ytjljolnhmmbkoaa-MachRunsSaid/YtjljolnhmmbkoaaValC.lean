/- What is proved: what was written at each place, held in the heap; a way that comes to a place. what an instruction does to what was written; whether a slot was not. what rule 2 tells of an instruction; rows of places that change behind. what is found on all ways. what valid.Check answers. what the law's own kinds are. Conditions: as each theorem says. -/
import Derived.Test.YtjljolnhmmbkoaaValB
import Derived.Test.YtjljolnhmmbkoaaPlain
set_option linter.unusedVariables false
set_option linter.unusedSimpArgs false
set_option linter.unusedSectionVars false
namespace Go.Proofs.Ytjljolnhmmbkoaa
open Go.Eng Go.Plain
set_option autoImplicit false
set_option maxRecDepth 100000
variable {nat : ∀ [Deep], Nats}
def SetAt (η : HN) (T : Nat → Nat) (B t : Nat) (v : AV) (ws : List Nat) : Prop := ∃ b cap, v = .slice b 0 ws.length cap ∧ B ≤ b ∧ b < η.nx ∧ T b = t ∧ η.f b = .live false (u64s ws)
def DAt (η : HN) (T : Nat → Nat) (B k : Nat) (v1 v2 : AV) (d : List Bool × List Bool) : Prop := ∃ w1 w2, SetW w1 d.1 ∧ SetW w2 d.2 ∧ SetAt η T B (2 * k + 1) v1 w1 ∧ SetAt η T B (2 * k + 2) v2 w2
def PlAt (η : HN) (T : Nat → Nat) (B q : Nat) (row : List AV) (x : St) : Prop := match x with
 | none => row[q * 3]? = some (.bool false)
 | some d => row[q * 3]? = some (.bool true) ∧ ∃ v1 v2, row[q * 3 + 1]? = some v1 ∧ row[q * 3 + 2]? = some v2 ∧ DAt η T B q v1 v2 d
structure Places (η : HN) (T : Nat → Nat) (B bl n lo : Nat) (st : Nat → St) (S O : Nat) : Prop where
 row : ∃ row, η.f bl = .live false row ∧ row.length = (n + 1) * 3 ∧ ∀ q, lo ≤ q → q ≤ n → PlAt η T B q row (st q)
 len : ∀ q d, lo ≤ q → st q = some d → d.1.length = S ∧ d.2.length = O
 bl : B ≤ bl ∧ bl < η.nx ∧ T bl = 0
 fresh : ∀ b, η.nx ≤ b → T b = 0
structure Kp (T : Nat → Nat) (bl : Nat) (η η' : HN) (T' : Nat → Nat) : Prop where
 nx : η.nx ≤ η'.nx
 tag : ∀ b, b < η.nx → T' b = T b
 keep : ∀ b, b < η.nx → T b = 0 → b ≠ bl → η'.f b = η.f b
theorem Kp.trans {T T' T'' : Nat → Nat} {bl : Nat} {η η' η'' : HN} (h : Kp T bl η η' T') (k : Kp T' bl η' η'' T'') : Kp T bl η η'' T'' :=
 ⟨Nat.le_trans h.nx k.nx, fun b hb => (k.tag b (Nat.lt_of_lt_of_le hb h.nx)).trans (h.tag b hb), fun b hb ht hbl => (k.keep b (Nat.lt_of_lt_of_le hb h.nx) ((h.tag b hb).trans ht) hbl).trans (h.keep b hb ht hbl)⟩
theorem Kp.ofExt {T : Nat → Nat} {bl : Nat} {η η' : HN} (h : ExtB η.nx η η') : Kp T bl η η' T := ⟨h.1, fun _ _ => rfl, fun b hb _ _ => h.2 b hb⟩
theorem SetAt.of {η η' : HN} {T T' : Nat → Nat} {B t : Nat} {v : AV} {ws : List Nat} (h : SetAt η T B t v ws) (hn : η.nx ≤ η'.nx) (hT : ∀ b, b < η.nx → T' b = T b) (hk : ∀ b, b < η.nx → T b = t → η'.f b = η.f b) : SetAt η' T' B t v ws := by
 obtain ⟨b, cap, h1, h2, h3, h4, h5⟩ := h
 exact ⟨b, cap, h1, h2, by omega, (hT b h3).trans h4, (hk b h3 h4).trans h5⟩
theorem DAt.of {η η' : HN} {T T' : Nat → Nat} {B k : Nat} {v1 v2 : AV} {d : List Bool × List Bool} (h : DAt η T B k v1 v2 d) (hn : η.nx ≤ η'.nx) (hT : ∀ b, b < η.nx → T' b = T b) (hk : ∀ b, b < η.nx → (T b = 2 * k + 1 ∨ T b = 2 * k + 2) → η'.f b = η.f b) : DAt η' T' B k v1 v2 d := by
 obtain ⟨w1, w2, h1, h2, h3, h4⟩ := h
 exact ⟨w1, w2, h1, h2, h3.of hn hT fun b hb ht => hk b hb (.inl ht), h4.of hn hT fun b hb ht => hk b hb (.inr ht)⟩
theorem PlAt.of {η η' : HN} {T T' : Nat → Nat} {B q : Nat} {row row' : List AV} {x : St} (h : PlAt η T B q row x) (hr : ∀ i, i < 3 → row'[q * 3 + i]? = row[q * 3 + i]?) (hn : η.nx ≤ η'.nx) (hT : ∀ b, b < η.nx → T' b = T b) (hk : ∀ b, b < η.nx → (T b = 2 * q + 1 ∨ T b = 2 * q + 2) → η'.f b = η.f b) : PlAt η' T' B q row' x := by
 have r0 := hr 0 (by omega)
 rw [Nat.add_zero] at r0
 cases x with
 | none => exact r0.trans h
 | some d =>
  obtain ⟨h1, v1, v2, h2, h3, h4⟩ := h
  exact ⟨r0.trans h1, v1, v2, (hr 1 (by omega)).trans h2, (hr 2 (by omega)).trans h3, h4.of hn hT hk⟩
theorem Places.ext {η η' : HN} {T : Nat → Nat} {B bl n lo S O : Nat} {st : Nat → St} (h : Places η T B bl n lo st S O) (e : ExtB η.nx η η') : Places η' T B bl n lo st S O := by
 obtain ⟨row, h1, h2, h3⟩ := h.row
 exact ⟨⟨row, (e.2 _ h.bl.2.1).trans h1, h2, fun q a b => (h3 q a b).of (fun _ _ => rfl) e.1 (fun _ _ => rfl) fun b hb _ => e.2 b hb⟩, h.len, ⟨h.bl.1, Nat.lt_of_lt_of_le h.bl.2.1 e.1, h.bl.2.2⟩, fun b hb => h.fresh b (Nat.le_trans e.1 hb)⟩
theorem Places.up {η : HN} {T : Nat → Nat} {B bl n lo S O : Nat} {st : Nat → St} (h : Places η T B bl n lo st S O) : Places η T B bl n (lo + 1) st S O := by
 obtain ⟨row, h1, h2, h3⟩ := h.row
 exact ⟨⟨row, h1, h2, fun q a b => h3 q (by omega) b⟩, fun q d hq => h.len q d (by omega), h.bl, h.fresh⟩
theorem set3 {row : List AV} {i j : Nat} {x y z : AV} (h : j < i ∨ i + 3 ≤ j) : (setsL row i [x, y, z])[j]? = row[j]? := by
 show (((row.set i x).set (i + 1) y).set (i + 1 + 1) z)[j]? = _
 rw [List.getElem?_set_ne (by omega), List.getElem?_set_ne (by omega), List.getElem?_set_ne (by omega)]
theorem set3_at {row : List AV} {i : Nat} {x y z : AV} (h : i + 3 ≤ row.length) : (setsL row i [x, y, z])[i]? = some x ∧ (setsL row i [x, y, z])[i + 1]? = some y ∧ (setsL row i [x, y, z])[i + 2]? = some z := by
 show (((row.set i x).set (i + 1) y).set (i + 2) z)[i]? = _ ∧ (((row.set i x).set (i + 1) y).set (i + 2) z)[i + 1]? = _ ∧ (((row.set i x).set (i + 1) y).set (i + 2) z)[i + 2]? = _
 refine ⟨?_, ?_, ?_⟩
 ·rw [List.getElem?_set_ne (by omega), List.getElem?_set_ne (by omega), List.getElem?_set_self (by omega)]
 ·rw [List.getElem?_set_ne (by omega), List.getElem?_set_self (by simp; omega)]
 ·rw [List.getElem?_set_self (by simp; omega)]
theorem meet_places (U : Usual nat) {η : HN} {T : Nat → Nat} {B bl n lo S O k q : Nat} {st : Nat → St} {v1 v2 : AV} {d : List Bool × List Bool} (h : Places η T B bl n lo st S O) (hd : DAt η T B k v1 v2 d) (hl : d.1.length = S ∧ d.2.length = O) (hk : k ≠ q) (hq : lo ≤ q) (hqn : q ≤ n) (hS : S ≤ 1099511627776) (hO : O ≤ 1099511627776) :
  ∃ v η', CallN Try.prog nat 83 [.ptr bl (q * 3), .agg [.bool true, v1, v2]] η v η' ∧ ∃ T', Places η' T' B bl n lo (setF st q (meetF (st q) d)) S O ∧ DAt η' T' B k v1 v2 d ∧ Kp T bl η η' T' := by
 obtain ⟨row, r1, r2, r3⟩ := h.row
 obtain ⟨w1, w2, s1, s2, ⟨b1, cap1, rfl, p1, p2, p3, p4⟩, ⟨b2, cap2, rfl, q1, q2, q3, q4⟩⟩ := hd
 have hrow := r3 q hq hqn
 have m1 : w1.length ≤ 1099511627776 := by have := s1.len; omega
 have m2 : w2.length ≤ 1099511627776 := by have := s2.len; omega
 cases hx : st q with
 | none =>
  rw [hx] at hrow
  have hrow : row[q * 3]? = some (.bool false) := hrow
  obtain ⟨v, η', kk, c1, c2, k1, k2, η2, rfl, E, g1, g2, g3, g4, g5⟩ := meet_none U η bl (q * 3) row b1 b2 cap1 cap2 w1 w2 .nilslice .nilslice r1 h.bl.2.1 (by omega) hrow p4 p2 q4 q2 m1 m2
  have hbl := h.bl
  have hn2 : (η2.put bl (.live false (setsL row (q * 3) [.bool true, .slice c1 0 w1.length k1, .slice c2 0 w2.length k2]))).nx = η2.nx := rfl
  have e1 := E.1
  have hne : ∀ b, b ≠ bl → (η2.put bl (.live false (setsL row (q * 3) [.bool true, .slice c1 0 w1.length k1, .slice c2 0 w2.length k2]))).f b = η2.f b := fun b hb => by show (if b = bl then _ else _) = _; rw [if_neg hb]
  have hT : ∀ b, b < η.nx → (fun b => if b = c1 then 2 * q + 1 else if b = c2 then 2 * q + 2 else T b) b = T b := fun b hb => by dsimp only; rw [if_neg (by omega), if_neg (by omega)]
  have hkeep : ∀ b, b < η.nx → b ≠ bl → (η2.put bl (.live false (setsL row (q * 3) [.bool true, .slice c1 0 w1.length k1, .slice c2 0 w2.length k2]))).f b = η.f b := fun b hb hbb => (hne b hbb).trans (E.2 b hb)
  obtain ⟨a1, a2, a3⟩ := set3_at (x := .bool true) (y := .slice c1 0 w1.length k1) (z := .slice c2 0 w2.length k2) (show q * 3 + 3 ≤ row.length by omega)
  refine ⟨v, _, kk, fun b => if b = c1 then 2 * q + 1 else if b = c2 then 2 * q + 2 else T b, ⟨⟨_, by show (if bl = bl then _ else _) = _; rw [if_pos rfl], by show (setsL _ _ _).length = _; rw [setsL_length]; exact r2, fun q' hq1 hq2 => ?_⟩, fun q' d' hq' hd' => ?_, ⟨hbl.1, by omega, by rw [if_neg (by omega), if_neg (by omega)]; exact hbl.2.2⟩, fun b hb => by rw [if_neg (by omega), if_neg (by omega)]; exact h.fresh b (by omega)⟩, ?_, ⟨by omega, hT, fun b hb _ hbb => hkeep b hb hbb⟩⟩
  ·by_cases hqq : q' = q
   ·subst hqq
    show PlAt _ _ _ _ _ (if q' = q' then _ else _)
    rw [if_pos rfl]
    refine ⟨a1, _, _, a2, a3, w1, w2, s1, s2, ⟨c1, k1, rfl, by omega, by omega, if_pos rfl, (hne c1 (by omega)).trans g4⟩, ⟨c2, k2, rfl, by omega, by omega, ?_, (hne c2 (by omega)).trans g5⟩⟩
    show (if c2 = c1 then _ else if c2 = c2 then _ else _) = _
    rw [if_neg (by omega), if_pos rfl]
   ·show PlAt _ _ _ _ _ (if q' = q then _ else _)
    rw [if_neg hqq]
    exact (r3 q' hq1 hq2).of (fun i hi => set3 (by omega)) (by omega) hT fun b hb ht => hkeep b hb fun e => by have := hbl.2.2; rw [e] at ht; omega
  ·have hd' : (if q' = q then some (meetF none d) else st q') = some d' := hd'
   by_cases hqq : q' = q
   ·rw [if_pos hqq] at hd'
    cases hd'
    exact hl
   ·rw [if_neg hqq] at hd'
    exact h.len q' d' hq' hd'
  ·refine DAt.of ⟨w1, w2, s1, s2, ⟨b1, cap1, rfl, p1, p2, p3, p4⟩, ⟨b2, cap2, rfl, q1, q2, q3, q4⟩⟩ (by omega) hT fun b hb ht => hkeep b hb fun e => by have := hbl.2.2; rw [e] at ht; omega
 | some d0 =>
  rw [hx] at hrow
  obtain ⟨t1, u1, u2, t2, t3, x1, x2, y1, y2, ⟨bs, caps, rfl, z1, z2, z3, z4⟩, ⟨bo, capo, rfl, o1, o2, o3, o4⟩⟩ := hrow
  obtain ⟨l1, l2⟩ := h.len q d0 hq hx
  have e1 : x1.length = w1.length := by rw [y1.len, s1.len, l1, hl.1]
  have e2 : x2.length = w2.length := by rw [y2.len, s2.len, l2, hl.2]
  have hbl := h.bl
  have nb : ∀ {b c : Nat}, T b ≠ T c → b ≠ c := fun hne e => hne (by rw [e])
  obtain ⟨v, η', kk, η2, rfl, E⟩ := meet_some U η bl (q * 3) row bs bo caps capo x1 x2 b1 b2 cap1 cap2 w1 w2 r1 hbl.2.1 (by omega) t1 t2 t3 z4 o4 z2 o2 p4 p2 q4 q2 e1 e2 (by omega) (by omega)
   (nb (by omega)) (nb (by omega)) (nb (by omega)) (nb (by omega)) (nb (by omega)) (nb (by omega))
  have hne : ∀ b, b < η.nx → T b ≠ 2 * q + 1 → T b ≠ 2 * q + 2 → ((η2.put bs (.live false (u64s (andW x1 w1)))).put bo (.live false (u64s (andW x2 w2)))).f b = η.f b := fun b hb h1 h2 => by
   show (if b = bo then _ else if b = bs then _ else _) = _
   rw [if_neg (nb (by omega)), if_neg (nb (by omega))]
   exact E.2 b hb
  have hnx : ((η2.put bs (.live false (u64s (andW x1 w1)))).put bo (.live false (u64s (andW x2 w2)))).nx = η2.nx := rfl
  have e3 := E.1
  refine ⟨v, _, kk, T, ⟨⟨row, (hne bl hbl.2.1 (by omega) (by omega)).trans r1, r2, fun q' hq1 hq2 => ?_⟩, fun q' d' hq' hd' => ?_, ⟨hbl.1, by omega, hbl.2.2⟩, fun b hb => h.fresh b (by omega)⟩, ?_, ⟨by omega, fun _ _ => rfl, fun b hb ht _ => hne b hb (by omega) (by omega)⟩⟩
  ·by_cases hqq : q' = q
   ·subst hqq
    show PlAt _ _ _ _ _ (if q' = q' then _ else _)
    rw [if_pos rfl]
    have a1 : (andW x1 w1).length = x1.length := andW_len e1
    have a2 : (andW x2 w2).length = x2.length := andW_len e2
    refine ⟨t1, _, _, t2, t3, andW x1 w1, andW x2 w2, setW_and y1 s1 (by rw [l1, hl.1]), setW_and y2 s2 (by rw [l2, hl.2]), ⟨bs, caps, by rw [a1], by omega, by omega, z3, ?_⟩, ⟨bo, capo, by rw [a2], by omega, by omega, o3, ?_⟩⟩
    ·show (if bs = bo then _ else if bs = bs then _ else _) = _
     rw [if_neg (nb (by omega)), if_pos rfl]
    ·show (if bo = bo then _ else _) = _
     rw [if_pos rfl]
   ·show PlAt _ _ _ _ _ (if q' = q then _ else _)
    rw [if_neg hqq]
    exact (r3 q' hq1 hq2).of (fun _ _ => rfl) (by omega) (fun _ _ => rfl) fun b hb ht => hne b hb (by omega) (by omega)
  ·have hd' : (if q' = q then some (meetF (some d0) d) else st q') = some d' := hd'
   by_cases hqq : q' = q
   ·rw [if_pos hqq] at hd'
    cases hd'
    show (List.zipWith _ _ _).length = S ∧ (List.zipWith _ _ _).length = O
    rw [List.length_zipWith, List.length_zipWith, l1, l2, hl.1, hl.2]
    omega
   ·rw [if_neg hqq] at hd'
    exact h.len q' d' hq' hd'
  ·refine DAt.of ⟨w1, w2, s1, s2, ⟨b1, cap1, rfl, p1, p2, p3, p4⟩, ⟨b2, cap2, rfl, q1, q2, q3, q4⟩⟩ (by omega) (fun _ _ => rfl) fun b hb ht => hne b hb (by omega) (by omega)
end Go.Proofs.Ytjljolnhmmbkoaa
namespace Go.Proofs.Ytjljolnhmmbkoaa
open Go.Eng Go.Plain
set_option autoImplicit false
set_option maxRecDepth 100000
variable {nat : ∀ [Deep], Nats}
theorem SetAt.rd {η : HN} {T : Nat → Nat} {B t : Nat} {v : AV} {ws : List Nat} (h : SetAt η T B t v ws) : RdI .u64 η v ws := by
 obtain ⟨b, cap, rfl, h2, h3, h4, h5⟩ := h
 exact rdI_blk ws h5 h3
theorem has_call (U : Usual nat) (η : HN) (y : AV) (ws : List Nat) (l : List Bool) (n : Nat) (hy : RdI .u64 η y ws) (hw : SetW ws l) (hn : n < l.length) (hl : l.length ≤ 1099511627776) : CallN Try.prog nat 45 [y, .int .i64 n] η (.bool (l.getD n false)) η := by
 have h1 := hw.len
 obtain ⟨v, η', k, rfl, rfl⟩ := has_spec (U 45 (by decide)) η y ws n hy (by omega) (by omega) hw.lt
 rw [setW_has hw hn] at k
 exact k
theorem nothas_call (U : Usual nat) (η : HN) (p : Nat) (c0 v1 v2 : AV) (ws : List Nat) (l : List Bool) (n : Nat) (hp : η.f p = .live false [c0, v1, v2]) (hy : RdI .u64 η v1 ws) (hw : SetW ws l) (hn : n < l.length) (hl : l.length ≤ 1099511627776) :
  CallN Try.prog nat 86 [.int .i64 n, .ptr p 0] η (.bool (!l.getD n false)) η := by
 have : ∃ v η', CallN Try.prog nat 86 [.int .i64 n, .ptr p 0] η v η' ∧ v = .bool (!l.getD n false) ∧ η' = η := by
  refine call_of (PT := pl86) Try.func86 rfl (U 86 (by decide)) ok86 rfl ?_
  simp -implicitDefEqProofs (disch := omega) only [go_sem, hp]
  refine thenN_call ⟨_, _, has_call U _ _ _ _ _ hy hw hn hl, ?_⟩
  simp -implicitDefEqProofs (disch := omega) only [go_sem]
 obtain ⟨v, η', k, rfl, rfl⟩ := this
 exact k
theorem does_places (U : Usual nat) {η : HN} {T : Nat → Nat} {B bl n lo S O k p : Nat} {st : Nat → St} {came : Bool} {v1 v2 : AV} {d : List Bool × List Bool} {i : Ins} (h : Places η T B bl n lo st S O) (hd : DAt η T B k v1 v2 d) (hl : d.1.length = S ∧ d.2.length = O) (hk : k < lo)
  (hp : η.f p = .live false [.bool came, v1, v2]) (hpn : p < η.nx) (hi : i.op ≤ 20) (ha : i.op ≠ 3 → i.op ≠ 5 → i.op ≤ 18 → i.a < S) (ho : i.op = 5 → i.a < O) (hS : S ≤ 1099511627776) (hO : O ≤ 1099511627776) :
  ∃ v η', CallN Try.prog nat 87 [.ptr p 0, .agg i.cells] η v η' ∧ Places η' T B bl n lo st S O ∧ DAt η' T B k v1 v2 (doesF i d) ∧ Kp T bl η η' T := by
 obtain ⟨op, a, b, c⟩ := i
 dsimp only at hi ha ho
 have nb : ∀ {b c : Nat}, T b ≠ T c → b ≠ c := fun hne e => hne (by rw [e])
 obtain ⟨w1, w2, s1, s2, ⟨b1, cap1, rfl, p1, p2, p3, p4⟩, ⟨b2, cap2, rfl, q1, q2, q3, q4⟩⟩ := hd
 have hd0 : DAt η T B k (.slice b1 0 w1.length cap1) (.slice b2 0 w2.length cap2) d := ⟨w1, w2, s1, s2, ⟨b1, cap1, rfl, p1, p2, p3, p4⟩, ⟨b2, cap2, rfl, q1, q2, q3, q4⟩⟩
 have l1 := s1.len
 have l2 := s2.len
 by_cases hno : op = 3 ∨ op = 19 ∨ op = 20
 ·obtain ⟨v, η', kk, E⟩ := does_no_spec (U 87 (by decide)) (U 103 (by decide)) η p op a b c came _ _ hp hno hpn
  have e : doesF ⟨op, a, b, c⟩ d = d := by unfold doesF; dsimp only; rw [if_neg (by omega), if_pos hno]
  rw [e]
  exact ⟨v, η', kk, h.ext E, hd0.of E.1 (fun _ _ => rfl) fun b hb _ => E.2 b hb, Kp.ofExt E⟩
 by_cases h5 : op = 5
 ·subst h5
  have hlt : a / 64 < w2.length := by rw [l2, hl.2]; have := ho rfl; omega
  have hr : (u64s w2)[0 + a / 64]? = some (.int .u64 (w2.getD (a / 64) 0)) := by rw [Nat.zero_add]; exact u64s_at (by rw [List.getD_eq_getElem?_getD, List.getElem?_eq_getElem hlt]; rfl)
  obtain ⟨v, η', kk, rfl⟩ := does_out_spec (U 87 (by decide)) (U 103 (by decide)) η p a b c b2 0 w2.length _ cap2 _ came _ hp hpn q2 q4 hlt hr (by rw [l2, hl.2]; omega)
  have e : doesF ⟨5, a, b, c⟩ d = (d.1, d.2.set a true) := rfl
  rw [e]
  rw [Nat.zero_add, u64s_set] at kk
  have E : ExtB η.nx η (η.new (.live false [.int .i64 5, .int .i64 a, .int .i64 b, .int .i64 c])) := extN (.refl _ _)
  have hne : ∀ x, x < η.nx → x ≠ b2 → ((η.new (.live false [.int .i64 5, .int .i64 a, .int .i64 b, .int .i64 c])).put b2 (.live false (u64s (w2.set (a / 64) (w2.getD (a / 64) 0 ||| 2 ^ (a % 64)))))).f x = η.f x := fun x hx hx2 => by
   show (if x = b2 then _ else _) = _; rw [if_neg hx2]; exact E.2 x hx
  have hnx : ((η.new (.live false [.int .i64 5, .int .i64 a, .int .i64 b, .int .i64 c])).put b2 (.live false (u64s (w2.set (a / 64) (w2.getD (a / 64) 0 ||| 2 ^ (a % 64)))))).nx = η.nx + 1 := rfl
  obtain ⟨row, r1, r2, r3⟩ := h.row
  have hbl := h.bl
  refine ⟨v, _, kk, ⟨⟨row, (hne bl hbl.2.1 (nb (by omega))).trans r1, r2, fun q a1 b1 => (r3 q a1 b1).of (fun _ _ => rfl) (by omega) (fun _ _ => rfl) fun x hx ht => hne x hx (nb (by omega))⟩, h.len, ⟨hbl.1, by omega, hbl.2.2⟩, fun x hx => h.fresh x (by omega)⟩, ?_, ⟨by omega, fun _ _ => rfl, fun x hx ht _ => hne x hx (nb (by omega))⟩⟩
  refine ⟨w1, _, s1, setW_add s2 (by rw [hl.2]; exact ho rfl), ⟨b1, cap1, rfl, p1, by omega, p3, (hne b1 p2 (nb (by omega))).trans p4⟩, ⟨b2, cap2, by rw [List.length_set], q1, by omega, q3, by show (if b2 = b2 then _ else _) = _; rw [if_pos rfl]⟩⟩
 ·have hlt : a / 64 < w1.length := by rw [l1, hl.1]; have := ha (by omega) (by omega) (by omega); omega
  have hr : (u64s w1)[0 + a / 64]? = some (.int .u64 (w1.getD (a / 64) 0)) := by rw [Nat.zero_add]; exact u64s_at (by rw [List.getD_eq_getElem?_getD, List.getElem?_eq_getElem hlt]; rfl)
  obtain ⟨v, η', kk, rfl⟩ := does_slot_spec (U 87 (by decide)) (U 103 (by decide)) η p op a b c b1 0 w1.length _ cap1 _ came _ hp hpn p2 (by omega) (by omega) (by omega) p4 hlt hr (by rw [l1, hl.1]; omega)
  have e : doesF ⟨op, a, b, c⟩ d = (d.1.set a true, d.2) := by unfold doesF; dsimp only; rw [if_neg h5, if_neg hno]
  rw [e]
  rw [Nat.zero_add, u64s_set] at kk
  have E : ExtB η.nx η (η.new (.live false [.int .i64 op, .int .i64 a, .int .i64 b, .int .i64 c])) := extN (.refl _ _)
  have hne : ∀ x, x < η.nx → x ≠ b1 → ((η.new (.live false [.int .i64 op, .int .i64 a, .int .i64 b, .int .i64 c])).put b1 (.live false (u64s (w1.set (a / 64) (w1.getD (a / 64) 0 ||| 2 ^ (a % 64)))))).f x = η.f x := fun x hx hx2 => by
   show (if x = b1 then _ else _) = _; rw [if_neg hx2]; exact E.2 x hx
  have hnx : ((η.new (.live false [.int .i64 op, .int .i64 a, .int .i64 b, .int .i64 c])).put b1 (.live false (u64s (w1.set (a / 64) (w1.getD (a / 64) 0 ||| 2 ^ (a % 64)))))).nx = η.nx + 1 := rfl
  obtain ⟨row, r1, r2, r3⟩ := h.row
  have hbl := h.bl
  refine ⟨v, _, kk, ⟨⟨row, (hne bl hbl.2.1 (nb (by omega))).trans r1, r2, fun q a1 b1 => (r3 q a1 b1).of (fun _ _ => rfl) (by omega) (fun _ _ => rfl) fun x hx ht => hne x hx (nb (by omega))⟩, h.len, ⟨hbl.1, by omega, hbl.2.2⟩, fun x hx => h.fresh x (by omega)⟩, ?_, ⟨by omega, fun _ _ => rfl, fun x hx ht _ => hne x hx (nb (by omega))⟩⟩
  refine ⟨_, w2, setW_add s1 (by rw [hl.1]; exact ha (by omega) (by omega) (by omega)), s2, ⟨b1, cap1, by rw [List.length_set], p1, by omega, p3, by show (if b1 = b1 then _ else _) = _; rw [if_pos rfl]⟩, ⟨b2, cap2, rfl, q1, by omega, q3, (hne b2 q2 (nb (by omega))).trans q4⟩⟩
end Go.Proofs.Ytjljolnhmmbkoaa
namespace Go.Plain
open Go.Eng
theorem there_facts {p : PD} {pc : Nat} {i : Ins} (h : thereF p pc i = true) : i.op ≤ 20 ∧ (∀ n ∈ readsF i, n < p.slots.length) ∧ (i.op ≠ 3 → i.op ≠ 5 → i.op ≤ 18 → i.a < p.slots.length) ∧ (i.op = 5 → i.a < p.outs.length) ∧ (i.op = 19 ∨ i.op = 20 → pc < i.a ∧ i.a ≤ p.code.length) := by
 obtain ⟨op, a, b, c⟩ := i
 unfold thereF at h
 unfold readsF
 dsimp only at h ⊢
 unfold targetF has at h
 by_cases h0 : op = 0
 ·subst h0; simp at h ⊢; omega
 by_cases h1 : op = 1
 ·subst h1; simp at h ⊢; omega
 by_cases h2 : op = 2
 ·subst h2; simp at h ⊢; omega
 by_cases h3 : op = 3
 ·subst h3; simp at h ⊢; omega
 by_cases h4 : op = 4
 ·subst h4; simp at h ⊢; omega
 by_cases h5 : op = 5
 ·subst h5; simp at h ⊢; omega
 by_cases h6 : op = 6
 ·subst h6; simp at h ⊢; omega
 by_cases h7 : op = 7
 ·subst h7; simp at h ⊢; omega
 by_cases h19 : op = 19
 ·subst h19; simp at h ⊢; omega
 by_cases h20 : op = 20
 ·subst h20; simp at h ⊢; omega
 rw [if_neg h0, if_neg (by omega), if_neg h2, if_neg h3, if_neg h4, if_neg h5, if_neg h19, if_neg h20] at h
 simp only [Bool.and_eq_true, decide_eq_true_eq] at h
 rw [if_neg (by omega), if_pos (by omega)]
 refine ⟨by omega, ?_, fun _ _ _ => h.2.1, fun e => absurd e h5, fun e => by omega⟩
 intro n hn
 simp at hn
 rcases hn with rfl | rfl
 ·exact h.2.2.1
 ·exact h.2.2.2
theorem readsF_len (i : Ins) : (readsF i).length ≤ 1099511627776 := by
 unfold readsF
 by_cases h : i.op = 0 ∨ i.op = 2 ∨ i.op = 4 ∨ i.op = 20
 ·rw [if_pos h]; simp
 ·rw [if_neg h]
  by_cases k : 8 ≤ i.op ∧ i.op ≤ 18
  ·rw [if_pos k]; simp
  ·rw [if_neg k]; simp
theorem first_none {f : Nat → Ins → Bool} : ∀ {l : List Ins} {k : Nat}, firstF f l k = none → ∀ j (h : j < l.length), f (k + j) l[j] = true
 | [], _, _, j, h => absurd h (Nat.not_lt_zero j)
 | i :: l, k, e, j, h => by
  unfold firstF at e
  cases hf : f k i with
  | false => rw [hf] at e; simp at e
  | true =>
   rw [hf, if_pos rfl] at e
   cases j with
   | zero => exact hf
   | succ j =>
    have := first_none e j (by simpa using h)
    rw [show k + (j + 1) = k + 1 + j by omega]
    exact this
end Go.Plain
namespace Go.Proofs.Ytjljolnhmmbkoaa
open Go.Eng Go.Plain
set_option autoImplicit false
theorem Places.behind {η : HN} {T : Nat → Nat} {B bl n lo S O : Nat} {st : Nat → St} (h : Places η T B bl n lo st S O) {row row' : List AV} (hr : η.f bl = .live false row) (hl : row'.length = row.length) (he : ∀ i, lo * 3 ≤ i → row'[i]? = row[i]?) : Places (η.put bl (.live false row')) T B bl n lo st S O := by
 obtain ⟨row0, h1, h2, h3⟩ := h.row
 rw [hr] at h1
 cases h1
 have hbl := h.bl
 have hne : ∀ b, b ≠ bl → (η.put bl (.live false row')).f b = η.f b := fun b hb => by show (if b = bl then _ else _) = _; rw [if_neg hb]
 refine ⟨⟨row', by show (if bl = bl then _ else _) = _; rw [if_pos rfl], hl.trans h2, fun q a b => (h3 q a b).of (fun i _ => he _ (by omega)) (Nat.le_refl _) (fun _ _ => rfl) fun x _ ht => hne x fun e => by rw [e, hbl.2.2] at ht; omega⟩, h.len, hbl, h.fresh⟩
end Go.Proofs.Ytjljolnhmmbkoaa
namespace Go.Proofs.Ytjljolnhmmbkoaa
open Go.Eng Go.Plain
set_option autoImplicit false
set_option maxRecDepth 100000
variable {nat : ∀ [Deep], Nats}
theorem drop3 {row : List AV} {i : Nat} {x y z : AV} (h0 : row[i]? = some x) (h1 : row[i + 1]? = some y) (h2 : row[i + 2]? = some z) : (row.drop i).take 3 = [x, y, z] := by
 have l2 := (List.getElem?_eq_some_iff.1 h2).1
 rw [List.drop_eq_getElem_cons (by omega), List.drop_eq_getElem_cons (by omega), List.drop_eq_getElem_cons (by omega)]
 rw [List.getElem?_eq_getElem (by omega)] at h0 h1 h2
 cases h0; cases h1; cases h2
 rfl
theorem room_call (U : Usual nat) (η : HN) (n : Nat) (hn : n ≤ 1000000) : CallN Try.prog nat 84 [.int .i64 n] η (.slice η.nx 0 ((n + 63) / 64) (.kn ((n + 63) / 64))) (η.new (.live false (List.replicate ((n + 63) / 64) (.int .u64 0)))) := by
 obtain ⟨v, η', k, rfl, rfl⟩ := room_spec (U 84 (by decide)) η n hn
 exact k
theorem repL3_len {n : Nat} {x y z : AV} : (repL n [x, y, z]).length = n * 3 := by
 unfold repL
 induction n with
 | zero => rfl
 | succ n ih => rw [List.replicate_succ, List.flatten_cons, List.length_append, ih]; show 3 + _ = _; omega
theorem repL3_at {x y z : AV} : ∀ {n q : Nat}, q < n → (repL n [x, y, z])[q * 3]? = some x
 | n + 1, 0, _ => by unfold repL; rw [List.replicate_succ, List.flatten_cons]; rfl
 | n + 1, q + 1, h => by
  have := repL3_at (x := x) (y := y) (z := z) (n := n) (q := q) (by omega)
  unfold repL at this ⊢
  rw [List.replicate_succ, List.flatten_cons, List.getElem?_append_right (by show 3 ≤ _; omega)]
  show _[(q + 1) * 3 - 3]? = _
  rw [show (q + 1) * 3 - 3 = q * 3 by omega]
  exact this
def foI (η0 : HN) (c r3 bl n : Nat) (z : PV) (p : PD) (m : Nat) (φ : FN) (η : HN) : Prop := ∃ pc T st, m = n - pc ∧ pc ≤ n ∧ φ 0 = .ptr c 0 ∧ φ 3 = .ptr r3 0 ∧ φ 4 = .int .i64 n ∧ φ 5 = .slice bl 0 (n + 1) (.kn (n + 1)) ∧ φ 40 = z.z6 ∧ φ 41 = .int .i64 n ∧ φ 42 = .int .i64 pc ∧
 Places η T η0.nx bl n pc st p.slots.length p.outs.length ∧ (∀ b, b < η0.nx → T b = 0) ∧ T r3 = 0 ∧ ExtB η0.nx η0 η ∧ η.f r3 = .live false [.bool false, .nilslice, .nilslice] ∧ η0.nx ≤ r3 ∧ r3 < η.nx ∧ r3 ≠ bl ∧ followF (p.code.drop pc) pc st = followF p.code 0 (startF p)
def foQ (η0 : HN) (p : PD) (v : AV) (η : HN) : Prop := ExtB η0.nx η0 η ∧ match followF p.code 0 (startF p) with
 | .inl pc => v = .tup [.int .i64 pc, .agg [.bool false, .nilslice, .nilslice]] ∧ pc ≤ p.code.length
 | .inr none => ∃ x y, v = .tup [.int .i64 18446744073709551615, .agg [.bool false, x, y]]
 | .inr (some d) => ∃ x y w, v = .tup [.int .i64 18446744073709551615, .agg [.bool true, x, y]] ∧ RdI .u64 η y w ∧ SetW w d.2 ∧ d.2.length = p.outs.length
set_option maxHeartbeats 2000000 in
theorem follow_spec (U : Usual nat) (η : HN) (c : Nat) (ro : Bool) (z : PV) (p : PD) (hc : η.f c = .live ro z.cells) (hcn : c < η.nx) (hp : IsP η z p) (hf : Fine p) (hpa : partsF p = true) (hth : firstF (thereF p) p.code 0 = none) :
  ∃ v η', CallN Try.prog nat 44 [.ptr c 0] η v η' ∧ foQ η p v η' := by
 refine call_of (PT := pl44) Try.func44 rfl (U 44 (by decide)) ok44 rfl ?_
 have l2 := rdI_len hp.outs hf.outs.1
 have l3 := rdI_len hp.slots hf.slots.1
 have l6 := rdC_len hp.code hf.code.1
 have bounds : p.slots.length ≤ 1024 ∧ p.outs.length ≤ 64 ∧ p.code.length ≤ 8192 := by
  unfold partsF at hpa
  simp only [Bool.and_eq_true, decide_eq_true_eq] at hpa
  omega
 obtain ⟨m3, m2, m6⟩ := bounds
 have hcap : ¬56 = 0 ∧ (p.code.length + 1) * 56 ≤ 140737488355328 := ⟨by decide, by omega⟩
 obtain ⟨row0, hrow0⟩ : ∃ r, r = repL (p.code.length + 1) [AV.bool false, AV.nilslice, AV.nilslice] := ⟨_, rfl⟩
 have hrl : row0.length = (p.code.length + 1) * 3 := by rw [hrow0, repL3_len]
 have hrg : ∀ q, q ≤ p.code.length → row0[q * 3]? = some (.bool false) := fun q hq => by rw [hrow0]; exact repL3_at (by omega)
 simp -implicitDefEqProofs (disch := omega) only [go_sem, hc, l2, l3, l6, if_pos hcap, ← hrow0]
 have E1 : ExtB η.nx η ((η.new (.live false [.bool false, .nilslice, .nilslice])).new (.live false row0)) := extN (extN (.refl _ _))
 have hnx1 : ((η.new (.live false [.bool false, .nilslice, .nilslice])).new (.live false row0)).nx = η.nx + 2 := rfl
 have hr3 : ((η.new (.live false [.bool false, .nilslice, .nilslice])).new (.live false row0)).f η.nx = .live false [.bool false, .nilslice, .nilslice] := by show (if η.nx = η.nx + 1 then _ else if η.nx = η.nx then _ else _) = _; rw [if_neg (by omega), if_pos rfl]
 have hbl : ((η.new (.live false [.bool false, .nilslice, .nilslice])).new (.live false row0)).f (η.nx + 1) = .live false row0 := by show (if η.nx + 1 = η.nx + 1 then _ else _) = _; rw [if_pos rfl]
 generalize (η.new (.live false [.bool false, .nilslice, .nilslice])).new (.live false row0) = η1 at *
 refine dE_call ⟨_, _, room_call U _ _ (by omega), ?_⟩
 have E2 : ExtB η.nx η (η1.new (.live false (List.replicate ((p.slots.length + 63) / 64) (.int .u64 0)))) := extN E1
 have hc1 := (E1.2 _ hcn).trans hc
 simp -implicitDefEqProofs (disch := omega) only [go_sem, hc, l2, l3, hc1]
 refine dE_call ⟨_, _, room_call U _ _ (by omega), ?_⟩
 have hrw : ∀ k : Nat, List.replicate k (AV.int .u64 0) = u64s (List.replicate k 0) := fun k => by unfold u64s; rw [List.map_replicate]
 have E3 : ExtB η.nx η ((η1.new (.live false (u64s (List.replicate ((p.slots.length + 63) / 64) 0)))).new (.live false (u64s (List.replicate ((p.outs.length + 63) / 64) 0)))) := extN (extN E1)
 have hnx3 : ((η1.new (.live false (u64s (List.replicate ((p.slots.length + 63) / 64) 0)))).new (.live false (u64s (List.replicate ((p.outs.length + 63) / 64) 0)))).nx = η1.nx + 2 := rfl
 have w1 : ((η1.new (.live false (u64s (List.replicate ((p.slots.length + 63) / 64) 0)))).new (.live false (u64s (List.replicate ((p.outs.length + 63) / 64) 0)))).f η1.nx = .live false (u64s (List.replicate ((p.slots.length + 63) / 64) 0)) := by
  show (if η1.nx = η1.nx + 1 then _ else if η1.nx = η1.nx then _ else _) = _; rw [if_neg (by omega), if_pos rfl]
 have w2 : ((η1.new (.live false (u64s (List.replicate ((p.slots.length + 63) / 64) 0)))).new (.live false (u64s (List.replicate ((p.outs.length + 63) / 64) 0)))).f (η1.nx + 1) = .live false (u64s (List.replicate ((p.outs.length + 63) / 64) 0)) := by
  show (if η1.nx + 1 = η1.nx + 1 then _ else _) = _; rw [if_pos rfl]
 have o1 : ∀ b, b < η.nx + 2 → ((η1.new (.live false (u64s (List.replicate ((p.slots.length + 63) / 64) 0)))).new (.live false (u64s (List.replicate ((p.outs.length + 63) / 64) 0)))).f b = η1.f b := fun b hb => by
  show (if b = η1.nx + 1 then _ else if b = η1.nx then _ else _) = _; rw [if_neg (by omega), if_neg (by omega)]
 simp -implicitDefEqProofs (disch := omega) only [go_sem, hc, l2, l3, hc1, hrw]
 generalize (η1.new (.live false (u64s (List.replicate ((p.slots.length + 63) / 64) 0)))).new (.live false (u64s (List.replicate ((p.outs.length + 63) / 64) 0))) = η3 at *
 have P0 : Places η3 (fun b => if b = η1.nx then 2 * (p.code.length + 1) + 1 else if b = η1.nx + 1 then 2 * (p.code.length + 1) + 2 else 0) η.nx (η.nx + 1) p.code.length 0 (fun _ => none) p.slots.length p.outs.length :=
  ⟨⟨row0, (o1 _ (by omega)).trans hbl, hrl, fun q _ hq => hrg q hq⟩, fun q d _ h => (nomatch h), ⟨by omega, by omega, by rw [if_neg (by omega), if_neg (by omega)]⟩, fun b hb => by rw [if_neg (by omega), if_neg (by omega)]⟩
 have D0 : DAt η3 (fun b => if b = η1.nx then 2 * (p.code.length + 1) + 1 else if b = η1.nx + 1 then 2 * (p.code.length + 1) + 2 else 0) η.nx (p.code.length + 1) (.slice η1.nx 0 ((p.slots.length + 63) / 64) (.kn ((p.slots.length + 63) / 64))) (.slice (η1.nx + 1) 0 ((p.outs.length + 63) / 64) (.kn ((p.outs.length + 63) / 64))) (List.replicate p.slots.length false, List.replicate p.outs.length false) :=
  ⟨_, _, setW_room _, setW_room _, ⟨_, _, by rw [List.length_replicate], by omega, by omega, if_pos rfl, w1⟩, ⟨_, _, by rw [List.length_replicate], by omega, by omega, by show (if η1.nx + 1 = η1.nx then _ else if η1.nx + 1 = η1.nx + 1 then _ else _) = _; rw [if_neg (by omega), if_pos rfl], w2⟩⟩
 obtain ⟨v4, η4, k4, T4, P4, _, K4⟩ := meet_places U P0 D0 (by simp) (show p.code.length + 1 ≠ 0 by omega) (Nat.le_refl 0) (Nat.zero_le _) (by omega) (by omega)
 rw [show (0 : Nat) * 3 = 0 from rfl] at k4
 refine dE_call ⟨_, _, k4, ?_⟩
 have E4 : ExtB η.nx η η4 := ⟨by have := K4.nx; have := E3.1; omega, fun b hb => (K4.keep b (by omega) (by show (if b = η1.nx then _ else if b = η1.nx + 1 then _ else _) = _; rw [if_neg (by omega), if_neg (by omega)]) (by omega)).trans (E3.2 b hb)⟩
 have hr4 : η4.f η.nx = .live false [.bool false, .nilslice, .nilslice] := (K4.keep η.nx (by omega) (by show (if η.nx = η1.nx then _ else if η.nx = η1.nx + 1 then _ else _) = _; rw [if_neg (by omega), if_neg (by omega)]) (by omega)).trans ((o1 _ (by omega)).trans hr3)
 have hT4 : ∀ b, b < η.nx + 2 → T4 b = 0 := fun b hb => (K4.tag b (by omega)).trans (by show (if b = η1.nx then _ else if b = η1.nx + 1 then _ else _) = _; rw [if_neg (by omega), if_neg (by omega)])
 have hc4 := (E4.2 _ hcn).trans hc
 have n4 := K4.nx
 have hc3 := (E3.2 _ hcn).trans hc
 simp -implicitDefEqProofs (disch := omega) only [go_sem, hc, hc1, hc3, hc4, l2, l3, l6, implies_true, true_and]
 refine wpN_loop (foI η c η.nx (η.nx + 1) p.code.length z p) p.code.length ⟨0, T4, startF p, by omega, Nat.zero_le _, rfl, rfl, rfl, rfl, rfl, rfl, rfl, P4, fun b hb => hT4 b (by omega), hT4 _ (by omega), E4, hr4, Nat.le_refl _, by omega, by omega, rfl⟩ ?_
 clear k4 K4 P4 hT4 E4 hr4 hc4 n4 P0 D0 w1 w2 o1 hc3 hc1 E3 E2 hnx3 hrw hr3 hbl E1 hnx1 hrl hrg hrow0
 rintro m φ η5 ⟨pc, T, st, hm, hpc, p0, p3, p4, p5, p40, p41, p42, P, hTl, hT3, E5, hr5, hB, hr5n, hne, hfol⟩
 have hc5 := (E5.2 _ hcn).trans hc
 have q5 := hp.ext E5
 by_cases hlt : pc < p.code.length
 ·obtain ⟨bc, offc, capc, roc, rowc, z6e, hbc, hbcn, hlc, hrc⟩ := RdR.at (i := pc) q5.code (by simpa using hlt)
  simp only [List.length_map, List.getElem_map] at z6e hrc
  have hsz : (Ins.cells p.code[pc]).length = 4 := rfl
  obtain ⟨row5, hbl5, hrl5, hpl5⟩ := P.row
  have hbln := P.bl
  have hpc5 := hpl5 pc (Nat.le_refl _) hpc
  have hlen5 : pc * 3 + 3 ≤ row5.length := by omega
  have hdrop := List.drop_eq_getElem_cons hlt
  cases hst : st pc with
  | none =>
   rw [hst] at hpc5
   have hd : ∃ x y, (row5.drop (pc * 3)).take 3 = [.bool false, x, y] := ⟨_, _, drop3 hpc5 (List.getElem?_eq_getElem (by omega)) (List.getElem?_eq_getElem (by omega))⟩
   obtain ⟨x, y, hd⟩ := hd
   simp -implicitDefEqProofs (disch := omega) only [go_sem, p0, p3, p4, p5, p40, p41, p42, z6e, hbc, hrc, hbl5, hd]
   have E6 : ExtB η5.nx η5 ((((η5.new (.live false [.int .i64 0, .int .i64 0, .int .i64 0, .int .i64 0])).put η5.nx (.live false p.code[pc].cells)).new (.live false [.bool false, .nilslice, .nilslice])).put (η5.nx + 1) (.live false [.bool false, x, y])) := extP (extN (extP (extN (.refl _ _))))
   refine ⟨p.code.length - (pc + 1), by omega, pc + 1, T, st, rfl, by omega, p0, p3, p4, p5, p40, p41, rfl, (P.ext E6).up, hTl, hT3, extT E5 E6, (E6.2 _ (by omega)).trans hr5, Nat.le_refl _, by have := E6.1; omega, by omega, ?_⟩
   rw [← hfol, hdrop, followF, hst]
  | some d =>
   rw [hst] at hpc5
   obtain ⟨g1, v1, v2, g2, g3, hD⟩ := hpc5
   have hd := drop3 g1 g2 g3
   simp -implicitDefEqProofs (disch := omega) only [go_sem, p0, p3, p4, p5, p40, p41, p42, z6e, hbc, hrc, hbl5, hd]
   have hi := first_none hth pc hlt
   rw [Nat.zero_add] at hi
   obtain ⟨f1, f2, f3, f4, f5⟩ := there_facts hi
   have fb := hf.code.2 _ (List.getElem_mem hlt)
   clear hi hrc hbc
   rw [hdrop, followF, hst] at hfol
   generalize p.code[pc] = i at *
   have E6 : ExtB η5.nx η5 ((((η5.new (.live false [.int .i64 0, .int .i64 0, .int .i64 0, .int .i64 0])).put η5.nx (.live false i.cells)).new (.live false [.bool false, .nilslice, .nilslice])).put (η5.nx + 1) (.live false [.bool true, v1, v2])) := extP (extN (extP (extN (.refl _ _))))
   have hn6 : ((((η5.new (.live false [.int .i64 0, .int .i64 0, .int .i64 0, .int .i64 0])).put η5.nx (.live false i.cells)).new (.live false [.bool false, .nilslice, .nilslice])).put (η5.nx + 1) (.live false [.bool true, v1, v2])).nx = η5.nx + 2 := rfl
   have t7 : ((((η5.new (.live false [.int .i64 0, .int .i64 0, .int .i64 0, .int .i64 0])).put η5.nx (.live false i.cells)).new (.live false [.bool false, .nilslice, .nilslice])).put (η5.nx + 1) (.live false [.bool true, v1, v2])).f η5.nx = .live false i.cells := by
    show (if η5.nx = η5.nx + 1 then _ else if η5.nx = η5.nx + 1 then _ else if η5.nx = η5.nx then _ else _) = _; rw [if_neg (by omega), if_neg (by omega), if_pos rfl]
   have t8 : ((((η5.new (.live false [.int .i64 0, .int .i64 0, .int .i64 0, .int .i64 0])).put η5.nx (.live false i.cells)).new (.live false [.bool false, .nilslice, .nilslice])).put (η5.nx + 1) (.live false [.bool true, v1, v2])).f (η5.nx + 1) = .live false [.bool true, v1, v2] := by
    show (if η5.nx + 1 = η5.nx + 1 then _ else _) = _; rw [if_pos rfl]
   generalize (((η5.new (.live false [.int .i64 0, .int .i64 0, .int .i64 0, .int .i64 0])).put η5.nx (.live false i.cells)).new (.live false [.bool false, .nilslice, .nilslice])).put (η5.nx + 1) (.live false [.bool true, v1, v2]) = η6 at *
   have P6 := (P.ext E6).up
   have D6 := hD.of (T' := T) E6.1 (fun _ _ => rfl) fun b hb _ => E6.2 b hb
   have ld := P.len pc d (Nat.le_refl _) hst
   obtain ⟨op, a, b, c3⟩ := i
   have hcs : Ins.cells ⟨op, a, b, c3⟩ = [.int .i64 op, .int .i64 a, .int .i64 b, .int .i64 c3] := rfl
   dsimp only at f1 f3 f4 f5 fb
   obtain ⟨fb0, fb1, fb2, fb3⟩ := fb
   rw [hcs] at t7 ⊢
   obtain ⟨v7, η7, k7, r7, E7⟩ := reads_spec (U 85 (by decide)) (U 79 (by decide)) η6 op a b c3 f1
   refine thenN_call ⟨_, _, k7, ?_⟩
   have E57 := extT E6 E7
   have t77 := (E7.2 _ (by omega)).trans t7
   have t87 := (E7.2 _ (by omega)).trans t8
   have P7 := P6.ext E7
   have D7 := D6.of (T' := T) E7.1 (fun _ _ => rfl) fun b hb _ => E7.2 b hb
   have n7 := E7.1
   simp -implicitDefEqProofs (disch := omega) only [go_sem]
   obtain ⟨v8, η8, k8, rfl, e8⟩ := contains2_spec U η7 v7 (readsF ⟨op, a, b, c3⟩) (fun n => !d.1.getD n false) 86 [.ptr (η5.nx + 1) 0] r7 (readsF_len _) fun n hn => by
    obtain ⟨w1, w2, s1, s2, s3, s4⟩ := D7
    exact nothas_call U η7 (η5.nx + 1) _ _ _ w1 d.1 n t87 s3.rd s1 (by rw [ld.1]; exact f2 n hn) (by rw [ld.1]; omega)
   rw [e8] at k8
   refine thenN_call ⟨_, _, k8, ?_⟩
   have hall : ((readsF ⟨op, a, b, c3⟩).any fun n => !d.1.getD n false) = !(readsF ⟨op, a, b, c3⟩).all fun n => d.1.getD n false := by rw [List.not_all_eq_any_not]
   rw [hall]
   have hr7 := ((E57.2 _ (by omega)).trans hr5)
   dsimp only at hfol
   cases hq : (readsF ⟨op, a, b, c3⟩).all (fun n => d.1.getD n false) with
   | false =>
    rw [hq, if_neg (by decide)] at hfol
    have hr70 : η7.f η.nx = .live false [.bool false, .nilslice, .nilslice] := hr7
    simp -implicitDefEqProofs (disch := omega) only [go_sem, Bool.not_false, p3, hr70]
    refine ⟨(extT E5 E57).trans (.put (Nat.le_refl _)), ?_⟩
    rw [← hfol]
    exact ⟨rfl, hpc⟩
   | true =>
   rw [hq, if_pos rfl] at hfol
   simp -implicitDefEqProofs (disch := omega) only [go_sem, Bool.not_true, t77]
   obtain ⟨v9, η9, k9, P9, D9, K9⟩ := does_places (i := ⟨op, a, b, c3⟩) U P7 D7 ld (Nat.lt_succ_self pc) t87 (by omega) f1 f3 f4 (by omega) (by omega)
   rw [hcs] at k9
   refine thenN_call ⟨_, _, k9, ?_⟩
   have T7 : T (η5.nx) = 0 := P.fresh _ (Nat.le_refl _)
   have T8 : T (η5.nx + 1) = 0 := P.fresh _ (by omega)
   have n9 := K9.nx
   have n5 := E5.1
   have t79 := (K9.keep _ (by omega) T7 (by omega)).trans t77
   have t89 := (K9.keep _ (by omega) T8 (by omega)).trans t87
   have ld9 : (doesF ⟨op, a, b, c3⟩ d).1.length = p.slots.length ∧ (doesF ⟨op, a, b, c3⟩ d).2.length = p.outs.length := by
    unfold doesF; split
    ·simp; exact ld
    ·split
     ·exact ld
     ·simp; exact ld
   have K79 : Kp T (η.nx + 1) η5 η9 T := (Kp.ofExt E57).trans K9
   clear k7 k8 k9 hall hq hd g1 g2 g3 hD D6 P6 D7 P7 E6 E7 t7 t8 t77 t87 hcs
   generalize hd' : doesF ⟨op, a, b, c3⟩ d = d' at *
   have T7c := t79
   have T8c := t89
   have K9 : Kp T (η.nx + 1) η9 η9 T := ⟨Nat.le_refl _, fun _ _ => rfl, fun _ _ _ _ => rfl⟩
   have n79 := K79.nx
   by_cases q20 : op = 20
   ·subst q20
    obtain ⟨f5a, f5b⟩ := f5 (.inr rfl)
    have d0 : decide (20 = 19) = false := rfl
    have d1 : decide (20 = 20) = true := rfl
    simp -implicitDefEqProofs (disch := omega) only [go_sem, p0, p3, p4, p5, p40, p41, p42, t79, t89, Bool.false_and, okO, d0, d1]
    obtain ⟨v10, η10, k10, T10, P10, D10, K10⟩ := meet_places U P9 D9 ld9 (show pc ≠ a by omega) (show pc + 1 ≤ a by omega) (show a ≤ p.code.length by omega) (by omega) (by omega)
    refine dE_call ⟨_, _, k10, ?_⟩
    have K10' := K9.trans K10
    have t7_10 := (K10'.keep _ (by have := K79.nx; omega) T7 (by omega)).trans T7c
    have t8_10 := (K10'.keep _ (by have := K79.nx; omega) T8 (by omega)).trans T8c
    have hgo : goF ⟨20, a, b, c3⟩ pc st d' = setF st a (meetF (st a) d') := rfl
    rw [hgo] at hfol
    have KK := K79.trans K10'
    obtain ⟨row9, r91, r92, r93⟩ := P10.row
    have pb := P10.bl
    have h9 : pc * 3 + 3 ≤ row9.length := by omega
    simp -implicitDefEqProofs (disch := omega) only [go_sem, p0, p3, p4, p5, p40, p41, p42, t7_10, t8_10, d1, Bool.not_true, r91, Bool.false_and, okO, implies_true, true_and, and_true]
    refine ⟨p.code.length - (pc + 1), by omega, pc + 1, T10, _, rfl, by omega, p0, p3, p4, p5, p40, p41, rfl, (P10.behind r91 (row' := row9.set (pc * 3 + 1) .nilslice) (by simp) (fun i hi => List.getElem?_set_ne (by omega))).behind (row := row9.set (pc * 3 + 1) .nilslice) (by show (if _ = _ then _ else _) = _; rw [if_pos rfl]) (row' := (row9.set (pc * 3 + 1) .nilslice).set (pc * 3 + 2) .nilslice) (by simp) (fun i hi => List.getElem?_set_ne (by omega)), ?_, ?_, ?_, ?_, Nat.le_refl _, ?_, by omega, hfol⟩
    ·exact fun x hx => (KK.tag x (by omega)).trans (hTl x hx)
    ·exact (KK.tag _ (by omega)).trans hT3
    ·refine ExtB.trans (ExtB.trans (η' := η10) ⟨by have := KK.nx; omega, fun x hx => (KK.keep x (by omega) (hTl x hx) (by omega)).trans (E5.2 x hx)⟩ (.put (c := η.nx + 1) (by omega))) (.put (by omega))
    ·show (if η.nx = η.nx + 1 then _ else if η.nx = η.nx + 1 then _ else _) = _
     rw [if_neg (by omega), if_neg (by omega)]
     exact (KK.keep _ (by omega) hT3 (by omega)).trans hr5
    ·have := KK.nx
     show η.nx < η10.nx
     omega
   by_cases q19 : op = 19
   ·subst q19
    obtain ⟨f5a, f5b⟩ := f5 (.inl rfl)
    have d0 : decide (19 = 19) = true := rfl
    have d1 : decide (19 = 20) = false := rfl
    simp -implicitDefEqProofs (disch := omega) only [go_sem, p0, p3, p4, p5, p40, p41, p42, t79, t89, Bool.false_and, okO, d0, d1]
    obtain ⟨v10, η10, k10, T10, P10, D10, K10⟩ := meet_places U P9 D9 ld9 (show pc ≠ a by omega) (show pc + 1 ≤ a by omega) (show a ≤ p.code.length by omega) (by omega) (by omega)
    refine dE_call ⟨_, _, k10, ?_⟩
    have K10' := K9.trans K10
    have t7_10 := (K10'.keep _ (by have := K79.nx; omega) T7 (by omega)).trans T7c
    have t8_10 := (K10'.keep _ (by have := K79.nx; omega) T8 (by omega)).trans T8c
    simp -implicitDefEqProofs (disch := omega) only [go_sem, p0, p3, p4, p5, p40, p41, p42, t7_10, t8_10, Bool.not_false, Bool.false_and, okO, d0, d1]
    obtain ⟨v11, η11, k11, T11, P11, D11, K11⟩ := meet_places U P10 D10 ld9 (show pc ≠ (pc + 1) by omega) (show pc + 1 ≤ (pc + 1) by omega) (show (pc + 1) ≤ p.code.length by omega) (by omega) (by omega)
    refine dE_call ⟨_, _, k11, ?_⟩
    have K11' := K10'.trans K11
    have t7_11 := (K11'.keep _ (by have := K79.nx; omega) T7 (by omega)).trans T7c
    have t8_11 := (K11'.keep _ (by have := K79.nx; omega) T8 (by omega)).trans T8c
    have hgo : goF ⟨19, a, b, c3⟩ pc st d' = setF (setF st a (meetF (st a) d')) (pc + 1) (meetF (setF st a (meetF (st a) d') (pc + 1)) d') := rfl
    rw [hgo] at hfol
    have KK := K79.trans K11'
    obtain ⟨row9, r91, r92, r93⟩ := P11.row
    have pb := P11.bl
    have h9 : pc * 3 + 3 ≤ row9.length := by omega
    simp -implicitDefEqProofs (disch := omega) only [go_sem, p0, p3, p4, p5, p40, p41, p42, t7_11, t8_11, d1, Bool.not_true, r91, Bool.false_and, okO, implies_true, true_and, and_true]
    refine ⟨p.code.length - (pc + 1), by omega, pc + 1, T11, _, rfl, by omega, p0, p3, p4, p5, p40, p41, rfl, (P11.behind r91 (row' := row9.set (pc * 3 + 1) .nilslice) (by simp) (fun i hi => List.getElem?_set_ne (by omega))).behind (row := row9.set (pc * 3 + 1) .nilslice) (by show (if _ = _ then _ else _) = _; rw [if_pos rfl]) (row' := (row9.set (pc * 3 + 1) .nilslice).set (pc * 3 + 2) .nilslice) (by simp) (fun i hi => List.getElem?_set_ne (by omega)), ?_, ?_, ?_, ?_, Nat.le_refl _, ?_, by omega, hfol⟩
    ·exact fun x hx => (KK.tag x (by omega)).trans (hTl x hx)
    ·exact (KK.tag _ (by omega)).trans hT3
    ·refine ExtB.trans (ExtB.trans (η' := η11) ⟨by have := KK.nx; omega, fun x hx => (KK.keep x (by omega) (hTl x hx) (by omega)).trans (E5.2 x hx)⟩ (.put (c := η.nx + 1) (by omega))) (.put (by omega))
    ·show (if η.nx = η.nx + 1 then _ else if η.nx = η.nx + 1 then _ else _) = _
     rw [if_neg (by omega), if_neg (by omega)]
     exact (KK.keep _ (by omega) hT3 (by omega)).trans hr5
    ·have := KK.nx
     show η.nx < η11.nx
     omega
   ·have d0 : decide (op = 19) = false := decide_eq_false q19
    have d1 : decide (op = 20) = false := decide_eq_false q20
    simp -implicitDefEqProofs (disch := omega) only [go_sem, p0, p3, p4, p5, p40, p41, p42, t79, t89, Bool.not_false, Bool.false_and, okO, d0, d1]
    obtain ⟨v10, η10, k10, T10, P10, D10, K10⟩ := meet_places U P9 D9 ld9 (show pc ≠ (pc + 1) by omega) (show pc + 1 ≤ (pc + 1) by omega) (show (pc + 1) ≤ p.code.length by omega) (by omega) (by omega)
    refine dE_call ⟨_, _, k10, ?_⟩
    have K10' := K9.trans K10
    have t7_10 := (K10'.keep _ (by have := K79.nx; omega) T7 (by omega)).trans T7c
    have t8_10 := (K10'.keep _ (by have := K79.nx; omega) T8 (by omega)).trans T8c
    have hgo : goF ⟨op, a, b, c3⟩ pc st d' = setF st (pc + 1) (meetF (st (pc + 1)) d') := by unfold goF; simp [q19, q20]
    rw [hgo] at hfol
    have KK := K79.trans K10'
    obtain ⟨row9, r91, r92, r93⟩ := P10.row
    have pb := P10.bl
    have h9 : pc * 3 + 3 ≤ row9.length := by omega
    simp -implicitDefEqProofs (disch := omega) only [go_sem, p0, p3, p4, p5, p40, p41, p42, t7_10, t8_10, d1, Bool.not_true, r91, Bool.false_and, okO, implies_true, true_and, and_true]
    refine ⟨p.code.length - (pc + 1), by omega, pc + 1, T10, _, rfl, by omega, p0, p3, p4, p5, p40, p41, rfl, (P10.behind r91 (row' := row9.set (pc * 3 + 1) .nilslice) (by simp) (fun i hi => List.getElem?_set_ne (by omega))).behind (row := row9.set (pc * 3 + 1) .nilslice) (by show (if _ = _ then _ else _) = _; rw [if_pos rfl]) (row' := (row9.set (pc * 3 + 1) .nilslice).set (pc * 3 + 2) .nilslice) (by simp) (fun i hi => List.getElem?_set_ne (by omega)), ?_, ?_, ?_, ?_, Nat.le_refl _, ?_, by omega, hfol⟩
    ·exact fun x hx => (KK.tag x (by omega)).trans (hTl x hx)
    ·exact (KK.tag _ (by omega)).trans hT3
    ·refine ExtB.trans (ExtB.trans (η' := η10) ⟨by have := KK.nx; omega, fun x hx => (KK.keep x (by omega) (hTl x hx) (by omega)).trans (E5.2 x hx)⟩ (.put (c := η.nx + 1) (by omega))) (.put (by omega))
    ·show (if η.nx = η.nx + 1 then _ else if η.nx = η.nx + 1 then _ else _) = _
     rw [if_neg (by omega), if_neg (by omega)]
     exact (KK.keep _ (by omega) hT3 (by omega)).trans hr5
    ·have := KK.nx
     show η.nx < η10.nx
     omega
 obtain rfl : pc = p.code.length := by omega
 rw [List.drop_length, followF] at hfol
 obtain ⟨row5, hbl5, hrl5, hpl5⟩ := P.row
 have hbln := P.bl
 have hpc5 := hpl5 _ (Nat.le_refl _) hpc
 cases hst : st p.code.length with
 | none =>
  rw [hst] at hpc5 hfol
  obtain ⟨x, y, hd⟩ : ∃ x y, (row5.drop (p.code.length * 3)).take 3 = [.bool false, x, y] := ⟨_, _, drop3 hpc5 (List.getElem?_eq_getElem (by omega)) (List.getElem?_eq_getElem (by omega))⟩
  simp -implicitDefEqProofs (disch := omega) only [go_sem, p0, p3, p4, p5, p40, p41, p42, hbl5, hd, hr5]
  refine ⟨E5.trans (.put (Nat.le_refl _)), ?_⟩
  rw [← hfol]
  exact ⟨x, y, rfl⟩
 | some d =>
  rw [hst] at hpc5 hfol
  obtain ⟨g1, v1, v2, g2, g3, hD⟩ := hpc5
  have hd := drop3 g1 g2 g3
  have ld := P.len _ d (Nat.le_refl _) hst
  simp -implicitDefEqProofs (disch := omega) only [go_sem, p0, p3, p4, p5, p40, p41, p42, hbl5, hd, hr5]
  refine ⟨E5.trans (.put (Nat.le_refl _)), ?_⟩
  rw [← hfol]
  obtain ⟨w1, w2, s1, s2, s3, ⟨b2, cap2, rfl, q1, q2, q3, q4⟩⟩ := hD
  exact ⟨v1, _, w2, rfl, rdI_blk w2 (by show (if b2 = η.nx then _ else _) = _; rw [if_neg (by intro e; rw [e, hT3] at q3; omega)]; exact q4) q2, s2, ld.2⟩
end Go.Proofs.Ytjljolnhmmbkoaa
namespace Go.Proofs.Ytjljolnhmmbkoaa
open Go.Eng Go.Plain
set_option autoImplicit false
set_option maxRecDepth 100000
variable {nat : ∀ [Deep], Nats}
def ckI (η0 : HN) (z : PV) (p : PD) (r : Nat) (f : Nat → Ins → Bool) (m : Nat) (φ : FN) (η : HN) : Prop := ∃ pc, m = p.code.length - pc ∧ pc ≤ p.code.length ∧ φ 1 = .ptr η0.nx 0 ∧ φ 2 = .ptr (η0.nx + 1) 0 ∧ φ 4 = .ptr (η0.nx + 1 + 1) 0 ∧ φ 5 = .int .i64 r ∧ φ 23 = z.z6 ∧ φ 24 = .int .i64 p.code.length ∧ φ 25 = .int .i64 pc ∧
 ExtB η0.nx η0 η ∧ η0.nx + 1 + 1 < η.nx ∧ η.f η0.nx = .live false z.cells ∧ η.f (η0.nx + 1) = .live false [.int .i64 0, .int .i64 0] ∧ η.f (η0.nx + 1 + 1) = .live false z.cells ∧ firstF f (p.code.drop pc) pc = firstF f p.code 0
def ckQ (η0 : HN) (p : PD) (v : AV) (η : HN) : Prop := v = .tup [.agg [.int .i64 (checkF p).1, .int .i64 (checkF p).2], .bool (decide ((checkF p).2 = 0))] ∧ ExtB η0.nx η0 η
attribute [go_sem] opd_m1
def laI (η0 : HN) (p : PD) (t9 : Nat) (came : Bool) (d2 : List Bool) (m : Nat) (φ : FN) (η : HN) : Prop := η = η0 ∧ ∃ i, m = p.outs.length - i ∧ i ≤ p.outs.length ∧ φ 65 = .int .i64 i ∧ φ 64 = .int .i64 p.outs.length ∧ φ 9 = .ptr t9 0 ∧ (came = true → ∀ j, j < i → d2.getD j false = true)
theorem all_ids {l : List Bool} : (∀ j, j < l.length → l.getD j false = true) → l.all id = true := by
 intro h
 rw [List.all_eq_true]
 intro x hx
 obtain ⟨j, hj, rfl⟩ := List.getElem_of_mem hx
 have := h j hj
 rwa [List.getD_eq_getElem?_getD, List.getElem?_eq_getElem hj] at this
set_option maxHeartbeats 2000000 in
theorem check_spec (U : Usual nat) (η : HN) (z : PV) (p : PD) (hp : IsP η z p) (hf : Fine p) :
  ∃ v η', CallN Try.prog nat 17 [.agg z.cells] η v η' ∧ ckQ η p v η' := by
 refine call_of (PT := pl17) Try.func17 rfl (U 17 (by decide)) ok17 rfl ?_
 have l2 := rdI_len hp.outs hf.outs.1
 have l6 := rdC_len hp.code hf.code.1
 have b6 := hf.code.1
 simp -implicitDefEqProofs (disch := omega) only [go_sem]
 have E1 : ExtB η.nx η (((η.new (.live false z.cells)).new (.live false [.int .i64 0, .int .i64 0])).new (.live false z.cells)) := extN (extN (extN (.refl _ _)))
 have hn1 : (((η.new (.live false z.cells)).new (.live false [.int .i64 0, .int .i64 0])).new (.live false z.cells)).nx = η.nx + 3 := rfl
 have x1 : (((η.new (.live false z.cells)).new (.live false [.int .i64 0, .int .i64 0])).new (.live false z.cells)).f η.nx = .live false z.cells := by
  show (if η.nx = η.nx + 1 + 1 then _ else if η.nx = η.nx + 1 then _ else if η.nx = η.nx then _ else _) = _; rw [if_neg (by omega), if_neg (by omega), if_pos rfl]
 have x2 : (((η.new (.live false z.cells)).new (.live false [.int .i64 0, .int .i64 0])).new (.live false z.cells)).f (η.nx + 1) = .live false [.int .i64 0, .int .i64 0] := by
  show (if η.nx + 1 = η.nx + 1 + 1 then _ else if η.nx + 1 = η.nx + 1 then _ else _) = _; rw [if_neg (by omega), if_pos rfl]
 have x3 : (((η.new (.live false z.cells)).new (.live false [.int .i64 0, .int .i64 0])).new (.live false z.cells)).f (η.nx + 1 + 1) = .live false z.cells := by
  show (if η.nx + 1 + 1 = η.nx + 1 + 1 then _ else _) = _; rw [if_pos rfl]
 have U1 := parts_spec U (((η.new (.live false z.cells)).new (.live false [.int .i64 0, .int .i64 0])).new (.live false z.cells)) (η.nx + 1 + 1) false z p x3 (by omega) (hp.ext E1) hf
 obtain ⟨v2, η2, k2, rfl, E2⟩ := U1
 refine thenN_call ⟨_, _, k2, ?_⟩
 have y1 := (E2.2 _ (by omega)).trans x1
 have y2 := (E2.2 _ (by omega)).trans x2
 have y3 := (E2.2 _ (by omega)).trans x3
 have E12 := extT E1 E2
 have n2 : η.nx + 1 + 1 < η2.nx := by have := E2.1; omega
 clear x1 x2 x3 E1 E2 k2 hn1
 unfold ckQ checkF
 cases hpa : partsF p with
 | false =>
  simp -implicitDefEqProofs (disch := omega) only [go_sem, Bool.not_false, y2]
  exact extP E12
 | true =>
 rw [if_pos rfl]
 simp -implicitDefEqProofs (disch := omega) only [go_sem, Bool.not_true]
 refine loop_n 3 ?_
 simp -implicitDefEqProofs (disch := omega) only [go_sem, y1, l6]
 refine wpN_loop (ckI η z p 2 (thereF p)) p.code.length ⟨0, by omega, Nat.zero_le _, rfl, rfl, rfl, rfl, rfl, rfl, rfl, E12, n2, y1, y2, y3, rfl⟩ ?_
 rintro m φ3 η3 ⟨pc, hm, hpc, p1, p2, p4, p5, p23, p24, p25, E3, n3, y1, y2, y3, hfr⟩
 have hc3 : Try.prog = Try.prog := rfl
 by_cases hlt : pc < p.code.length
 ·obtain ⟨bc, offc, capc, roc, rowc, z6e, hbc, hbcn, hlc, hrc⟩ := RdR.at (i := pc) (hp.ext E3).code (by simpa using hlt)
  simp only [List.length_map, List.getElem_map] at z6e hrc
  have hsz : (Ins.cells p.code[pc]).length = 4 := rfl
  have fb := hf.code.2 _ (List.getElem_mem hlt)
  have E3b : ExtB η3.nx η3 ((η3.new (.live false [.int .i64 0, .int .i64 0, .int .i64 0, .int .i64 0])).put η3.nx (.live false (Ins.cells p.code[pc]))) := extP (extN (.refl _ _))
  have hn3b : ((η3.new (.live false [.int .i64 0, .int .i64 0, .int .i64 0, .int .i64 0])).put η3.nx (.live false (Ins.cells p.code[pc]))).nx = η3.nx + 1 := rfl
  have w3 := (E3b.2 _ (by omega)).trans y3
  simp -implicitDefEqProofs (disch := omega) only [go_sem, p1, p2, p4, p5, p23, p24, p25, z6e, hbc, hrc, Bool.false_and, Bool.true_and]
  rw [List.drop_eq_getElem_cons hlt, firstF] at hfr
  obtain ⟨v5, η5, k5, rfl, E5⟩ := there_spec U _ (η.nx + 1 + 1) false z p pc p.code[pc] w3 (by omega) (hp.ext (extT E3 E3b)) hf (by omega) fb
  refine thenN_call ⟨_, _, k5, ?_⟩
  have E35 := extT E3 (extT E3b E5)
  have g5 := E5.1
  have s1 := ((extT E3b E5).2 _ (by omega)).trans y1
  have s2 := ((extT E3b E5).2 _ (by omega)).trans y2
  have s3 := ((extT E3b E5).2 _ (by omega)).trans y3
  cases hx : thereF p pc p.code[pc] with
  | false =>
   rw [hx, if_neg (by decide)] at hfr
   rw [← hfr]
   simp -implicitDefEqProofs (disch := omega) only [go_sem, Bool.not_false, Bool.and_true, Bool.true_and, p5, p2, p25, s2]
   first | exact extP E35 | exact ⟨rfl, extP E35⟩
  | true =>
   rw [hx, if_pos rfl] at hfr
   simp -implicitDefEqProofs (disch := omega) only [go_sem, Bool.not_true, Bool.and_false, Bool.false_and, p5, p2, p25]
   exact ⟨p.code.length - (pc + 1), by omega, pc + 1, rfl, by omega, p1, p2, p4, p5, p23, p24, rfl, E35, by omega, s1, s2, s3, hfr⟩
 obtain rfl : pc = p.code.length := by omega
 rw [List.drop_length, firstF] at hfr
 simp -implicitDefEqProofs (disch := omega) only [go_sem, p1, p2, p4, p5, p23, p24, p25, y1, l6]
 clear p5 p23 p24 p25
 have hth := hfr.symm
 rw [hth]
 refine wpN_loop (ckI η z p 3 (fun _ => kindsF p)) p.code.length ⟨0, by omega, Nat.zero_le _, p1, p2, p4, rfl, rfl, rfl, rfl, E3, n3, y1, y2, y3, rfl⟩ ?_
 rintro m φ4 η4 ⟨pc, hm, hpc, p1, p2, p4, p5, p23, p24, p25, E4, n4, y1, y2, y3, hfr⟩
 have hc4 : Try.prog = Try.prog := rfl
 by_cases hlt : pc < p.code.length
 ·obtain ⟨bc, offc, capc, roc, rowc, z6e, hbc, hbcn, hlc, hrc⟩ := RdR.at (i := pc) (hp.ext E4).code (by simpa using hlt)
  simp only [List.length_map, List.getElem_map] at z6e hrc
  have hsz : (Ins.cells p.code[pc]).length = 4 := rfl
  have fb := hf.code.2 _ (List.getElem_mem hlt)
  have E4b : ExtB η4.nx η4 ((η4.new (.live false [.int .i64 0, .int .i64 0, .int .i64 0, .int .i64 0])).put η4.nx (.live false (Ins.cells p.code[pc]))) := extP (extN (.refl _ _))
  have hn4b : ((η4.new (.live false [.int .i64 0, .int .i64 0, .int .i64 0, .int .i64 0])).put η4.nx (.live false (Ins.cells p.code[pc]))).nx = η4.nx + 1 := rfl
  have w3 := (E4b.2 _ (by omega)).trans y3
  simp -implicitDefEqProofs (disch := omega) only [go_sem, p1, p2, p4, p5, p23, p24, p25, z6e, hbc, hrc, Bool.false_and, Bool.true_and]
  rw [List.drop_eq_getElem_cons hlt, firstF] at hfr
  obtain ⟨v5, η5, k5, rfl, E5⟩ := kinds_spec U _ (η.nx + 1 + 1) false z p pc p.code[pc] w3 (by omega) (hp.ext (extT E4 E4b)) hf fb (by have := first_none hth pc hlt; rwa [Nat.zero_add] at this)
  refine thenN_call ⟨_, _, k5, ?_⟩
  have E35 := extT E4 (extT E4b E5)
  have g5 := E5.1
  have s1 := ((extT E4b E5).2 _ (by omega)).trans y1
  have s2 := ((extT E4b E5).2 _ (by omega)).trans y2
  have s3 := ((extT E4b E5).2 _ (by omega)).trans y3
  cases hx : kindsF p p.code[pc] with
  | false =>
   rw [hx, if_neg (by decide)] at hfr
   rw [← hfr]
   simp -implicitDefEqProofs (disch := omega) only [go_sem, Bool.not_false, Bool.and_true, Bool.true_and, p5, p2, p25, s2]
   first | exact extP E35 | exact ⟨rfl, extP E35⟩
  | true =>
   rw [hx, if_pos rfl] at hfr
   simp -implicitDefEqProofs (disch := omega) only [go_sem, Bool.not_true, Bool.and_false, Bool.false_and, p5, p2, p25]
   exact ⟨p.code.length - (pc + 1), by omega, pc + 1, rfl, by omega, p1, p2, p4, p5, p23, p24, rfl, E35, by omega, s1, s2, s3, hfr⟩
 obtain rfl : pc = p.code.length := by omega
 rw [List.drop_length, firstF] at hfr
 simp -implicitDefEqProofs (disch := omega) only [go_sem, p1, p2, p4, p5, p23, p24, p25, y1, l6]
 have hkd := hfr.symm
 rw [hkd]
 dsimp only
 have bounds : p.outs.length ≤ 64 ∧ p.code.length ≤ 8192 := by
  unfold partsF at hpa
  simp only [Bool.and_eq_true, decide_eq_true_eq] at hpa
  omega
 obtain ⟨m2, m6⟩ := bounds
 obtain ⟨v6, η6, k6, E6, F6⟩ := follow_spec U η4 (η.nx + 1 + 1) false z p y3 (by omega) (hp.ext E4) hf hpa hth
 refine thenN_call ⟨_, _, k6, ?_⟩
 have E46 := extT E4 E6
 have g6 := E6.1
 have s1 := (E6.2 _ (by omega)).trans y1
 have s2 := (E6.2 _ (by omega)).trans y2
 unfold lastF
 cases hfo : followF p.code 0 (startF p) with
 | inl pc =>
  rw [hfo] at F6
  obtain ⟨rfl, hpc⟩ := F6
  simp -implicitDefEqProofs (disch := omega) only [go_sem, p1, p2, p4, s1, s2, Bool.not_false]
  first | exact extP (extP (extN E46)) | exact ⟨rfl, extP (extP (extN E46))⟩
 | inr x =>
 cases x with
 | none =>
  rw [hfo] at F6
  obtain ⟨x, y, rfl⟩ := F6
  simp -implicitDefEqProofs (disch := omega) only [go_sem, p1, p2, p4, s1, s2, l2, Bool.not_true]
  refine wpN_loop (fun m φ η' => laI ((η6.new (.live false [.bool false, .nilslice, .nilslice])).put η6.nx (.live false [.bool false, x, y])) p η6.nx false [] m φ η' ∧ φ 1 = .ptr η.nx 0 ∧ φ 2 = .ptr (η.nx + 1) 0) p.outs.length ⟨⟨rfl, 0, by omega, Nat.zero_le _, rfl, rfl, rfl, fun h => by cases h⟩, p1, p2⟩ ?_
  rintro m φ7 η7 ⟨⟨rfl, i, hm, hi, r65, r64, r9, _⟩, q1, q2⟩
  by_cases hlt : i < p.outs.length
  ·simp -implicitDefEqProofs (disch := omega) only [go_sem, r65, r64, r9, Bool.false_and]
   exact ⟨p.outs.length - (i + 1), by omega, ⟨rfl, i + 1, rfl, by omega, rfl, r64, r9, fun h => by cases h⟩, q1, q2⟩
  ·obtain rfl : i = p.outs.length := by omega
   simp -implicitDefEqProofs (disch := omega) only [go_sem, r65, r64, r9, q1, q2, s2]
   first | exact extP (extP (extN E46)) | exact ⟨rfl, extP (extP (extN E46))⟩
 | some d =>
  rw [hfo] at F6
  obtain ⟨x, y, w, rfl, F7, F8, F9⟩ := F6
  simp -implicitDefEqProofs (disch := omega) only [go_sem, p1, p2, p4, s1, s2, l2, Bool.not_true]
  have E7 : ExtB η6.nx η6 ((η6.new (.live false [.bool false, .nilslice, .nilslice])).put η6.nx (.live false [.bool true, x, y])) := extP (extN (.refl _ _))
  refine wpN_loop (fun m φ η' => laI ((η6.new (.live false [.bool false, .nilslice, .nilslice])).put η6.nx (.live false [.bool true, x, y])) p η6.nx true d.2 m φ η' ∧ φ 1 = .ptr η.nx 0 ∧ φ 2 = .ptr (η.nx + 1) 0) p.outs.length ⟨⟨rfl, 0, by omega, Nat.zero_le _, rfl, rfl, rfl, fun _ j hj => absurd hj (Nat.not_lt_zero j)⟩, p1, p2⟩ ?_
  rintro m φ7 η7 ⟨⟨rfl, i, hm, hi, r65, r64, r9, hall⟩, q1, q2⟩
  have hall := hall rfl
  by_cases hlt : i < p.outs.length
  ·simp -implicitDefEqProofs (disch := omega) only [go_sem, r65, r64, r9]
   refine thenN_call ⟨_, _, has_call U _ _ _ _ _ (rdI_ext F7 E7) F8 (by omega) (by omega), ?_⟩
   cases hb : d.2.getD i false with
   | true =>
    simp -implicitDefEqProofs (disch := omega) only [go_sem, r65, r64, r9, Bool.not_true, Bool.true_and]
    refine ⟨p.outs.length - (i + 1), by omega, ⟨rfl, i + 1, rfl, by omega, rfl, r64, r9, fun _ j hj => ?_⟩, q1, q2⟩
    by_cases hji : j = i
    ·rw [hji]; exact hb
    ·exact hall j (by omega)
   | false =>
    have hna : d.2.all id = false := by
     cases h : d.2.all id with
     | false => rfl
     | true =>
      rw [List.all_eq_true] at h
      have := h _ (List.getElem_mem (show i < d.2.length by omega))
      rw [List.getD_eq_getElem?_getD, List.getElem?_eq_getElem (by omega)] at hb
      simp at hb this
      rw [hb] at this; cases this
    have hE : (if d.2.all id = true then ((0 : Nat), (0 : Nat)) else (p.code.length, 5)) = (p.code.length, 5) := if_neg (by rw [hna]; decide)
    simp -implicitDefEqProofs (disch := omega) only [hE, go_sem, r65, r64, r9, q1, q2, s1, s2, l6, Bool.not_false, Bool.true_and]
    first | exact extP (extP (extN E46)) | exact ⟨rfl, extP (extP (extN E46))⟩
  ·obtain rfl : i = p.outs.length := by omega
   have hya : d.2.all id = true := all_ids (by rw [F9]; exact hall)
   have hE : (if d.2.all id = true then ((0 : Nat), (0 : Nat)) else (p.code.length, 5)) = (0, 0) := if_pos hya
   simp -implicitDefEqProofs (disch := omega) only [hE, go_sem, r65, r64, r9, q1, q2, s2]
   first | exact extP (extP (extN E46)) | exact ⟨rfl, extP (extP (extN E46))⟩
end Go.Proofs.Ytjljolnhmmbkoaa
namespace Go.Proofs.Ytjljolnhmmbkoaa
open Go.Eng Go.Plain
set_option autoImplicit false
set_option maxRecDepth 100000
variable {nat : ∀ [Deep], Nats}
@[go_sem] theorem good4 : goodEq Try.prog 4 false = true := by kernel_rfl
theorem eq4 {a b : Bool} : (eqB Try.prog 4).f (.bool a) (.bool b) = some (beqB a b) := by kernel_rfl
@[go_sem] theorem eq4tt : (eqB Try.prog 4).f (.bool true) (.bool true) = some true := eq4
@[go_sem] theorem eq4ff : (eqB Try.prog 4).f (.bool false) (.bool false) = some true := eq4
theorem nneg_i64 (n : Nat) : nneg .i64 n = decide (n ≤ 9223372036854775807) := by
 rw [Bool.eq_iff_iff, decide_eq_true_eq]
 constructor
 ·intro h; have := ble_true.1 h; have h3 : halfN .i64 = 9223372036854775808 := rfl; omega
 ·intro h; exact ble_true.2 (show Nat.succ n ≤ 9223372036854775808 by omega)
def rowsC (l : List Ins) : List AV := (l.map Ins.cells).flatten
theorem cells4 (l : List Ins) : ∀ x ∈ l.map Ins.cells, x.length = 4 := by intro x hx; obtain ⟨i, _, rfl⟩ := List.mem_map.1 hx; rfl
theorem rdI_nil {k : IntKind} {η : HN} : RdI k η .nilslice [] := .inl ⟨rfl, .inl rfl⟩
theorem check_then (U : Usual nat) {η : HN} (z : PV) (p : PD) {Q : AV → HN → Prop} (hp : IsP η z p) (hf : Fine p) (h : ∀ η', ExtB η.nx η η' → Q (.tup [.agg [.int .i64 (checkF p).1, .int .i64 (checkF p).2], .bool (decide ((checkF p).2 = 0))]) η') : ∃ v η', CallN Try.prog nat 17 [.agg z.cells] η v η' ∧ Q v η' := by
 obtain ⟨v, η', k, rfl, E⟩ := check_spec U η z p hp hf
 exact ⟨_, η', k, h η' E⟩
end Go.Proofs.Ytjljolnhmmbkoaa
