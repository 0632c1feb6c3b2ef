/- What is proved: ShaTwo's walk. Conditions: the mixing of one block is told. -/
import Derived.Test.YtfcakkiakodokaaSha5
set_option linter.unusedVariables false
set_option linter.unusedSimpArgs false
set_option linter.unusedSectionVars false
namespace Go.Proofs.Ytfcakkiakodokaa
open Go.Eng
set_option autoImplicit false
set_option maxRecDepth 100000
variable {nat : ∀ [Deep], Nats} {F : List Nat → List Nat → List Nat}
@[go_sem] theorem good24 : goodEq Try.prog 24 false = true := by kernel_rfl
theorem eqB24 : eqB Try.prog 24 = ⟨q2 fun xs ys => qElems qInt false 1 xs ys 32 0⟩ := by kernel_rfl
theorem eq24 {l m : List Nat} (hl : l.length = 32) (hm : m.length = 32) : (eqB Try.prog 24).f (.agg (u8s l)) (.agg (u8s m)) = some (decide (l = m)) := by
  rw [eqB24]; exact eq_ints hl hm
theorem sha_len (l : List Nat) : (shaF F l).length = 32 := sumF_len _ _ _
theorem _root_.Go.Eng.ArgB.rd {η η' : HN} {z : AV} {l : List Nat} {bad : List Nat} (h : ArgB η z l) (he : ExtB η.nx η η') (hb : ∀ c ∈ bad, η.nx ≤ c) : RdBk η' bad z l := by
  rcases h with h | ⟨b, c, h1, h2, h3, h4⟩
  · exact .inl h
  · refine .inr ⟨b, 0, l.length, .kn c, h1, ⟨rfl, h2, true, u8s l, by rw [he.2 b h4]; exact h3, by rw [u8s_length]; omega, by rw [List.drop_zero, List.take_of_length_le (by rw [u8s_length]; omega)]⟩, by have := he.1; omega, fun hc => by have := hb b hc; omega⟩
theorem _root_.Go.Eng.ArgB.len {η η' : HN} {z : AV} {l : List Nat} {e y : Nat} (h : ArgB η z l) (hl : l.length ≤ 9223372036854775807) : lenN (.slice e 1 y) z η' = .ok (.int .i64 l.length) η' := by
  rcases h with ⟨rfl, rfl | ⟨b, off, cap, rfl⟩⟩ | ⟨b, c, rfl, h2, _⟩
  · rfl
  · rfl
  · rw [lenN_sl, lenI_at, if_pos hl]
/-- one byte of it -/
theorem _root_.Go.Eng.ArgB.one {η η' : HN} {z : AV} {l : List Nat} {e y i : Nat} (h : ArgB η z l) (hi : i < l.length) (hl : l.length ≤ 9223372036854775807) (he : ExtB η.nx η η') :
    ∃ w, slN (.slice e 1 y) z (some (.int .i64 i)) (some (.int .i64 (i + 1))) none η' = .ok w η' ∧ ∀ bad : List Nat, (∀ c ∈ bad, η.nx ≤ c) → RdBk η' bad w [l[i]] := by
  rcases h with ⟨rfl, _⟩ | ⟨b, c, rfl, h2, h3, h4⟩
  · simp at hi
  · refine ⟨.slice b (0 + i * 1) (i + 1 - i) (.kn (c - i)), ?_, fun bad hb => .inr ⟨b, _, _, _, rfl, ⟨by simp, show i + 1 - i ≤ c - i by omega, true, u8s l, by rw [he.2 b h4]; exact h3, by rw [u8s_length]; omega, ?_⟩, by have := he.1; omega, fun hc => by have := hb b hc; omega⟩⟩
    · simp -implicitDefEqProofs (disch := omega) only [go_sem]
    · rw [u8s_drop, u8s_take]
      congr 1
      rw [Nat.zero_add, Nat.mul_one, show i + 1 - i = 1 by omega]
      rw [List.drop_eq_getElem_cons hi]; rfl
def TwoI (F : List Nat → List Nat → List Nat) (η : HN) (za zb : AV) (a b : List Nat) (p q : Nat) (m : Nat) (φ : FN) (η' : HN) : Prop :=
  ∃ i, i + m = max a.length b.length ∧ φ 0 = za ∧ φ 1 = zb ∧ φ 5 = .ptr p 0 ∧ φ 6 = .ptr q 0 ∧ φ 7 = .int .i64 i ∧ Made F η' p [p, q] (a.take i) ∧ Made F η' q [p, q] (b.take i) ∧ ExtB η.nx η η'
theorem two_spec (X : Ctx nat F) (h7 : ∀ [Deep], nat 7 = none) (h8 : ∀ [Deep], nat 8 = some trueNat) (η : HN) (za zb : AV) (a b : List Nat) (ha : ArgB η za a) (hb : ArgB η zb b) (la : a.length ≤ 9223372036854775807) (lb : b.length ≤ 9223372036854775807) :
    ∃ v η', CallN Try.prog nat 7 [za, zb] η v η' ∧ v = .bool true := by
  refine call_of (PT := pl7) Try.func7 rfl h7 ok7 rfl ?_
  simp -implicitDefEqProofs (disch := omega) only [go_sem]
  refine thenN_call ⟨_, _, callN_true h8, ?_⟩
  by_cases la3 : a.length ≤ 300
  · by_cases lb3 : b.length ≤ 300
    · simp -implicitDefEqProofs (disch := omega) only [go_sem, ha.len (η' := η) la, hb.len (η' := η) lb]
      obtain ⟨v1, η1, c1, rfl, m1, E1⟩ := new_spec X η
      refine thenN_call ⟨_, η1, c1, ?_⟩
      simp -implicitDefEqProofs (disch := omega) only [go_sem]
      obtain ⟨v2, η2, c2, rfl, m2, E2⟩ := new_spec X η1
      refine thenN_call ⟨_, η2, c2, ?_⟩
      simp -implicitDefEqProofs (disch := omega) only [go_sem]
      have n1 : η.nx < η1.nx := (m1 []).choose_spec.2.2.1
      have n2 : η1.nx < η2.nx := (m2 []).choose_spec.2.2.1
      have hbad : ∀ c ∈ [η.nx, η1.nx], η.nx ≤ c := by simp; omega
      have M1 : Made F η2 η.nx [η.nx, η1.nx] (a.take 0) := Made.zero ((m1 _).frame E2.1 (E2.2 _ n1) fun b hb _ => E2.2 b hb)
      have M2 : Made F η2 η1.nx [η.nx, η1.nx] (b.take 0) := Made.zero (m2 _)
      have E02 : ExtB η.nx η η2 := E1.trans (E2.mono E1.1)
      refine wpN_loop (TwoI F η za zb a b η.nx η1.nx) (max a.length b.length) ⟨0, by simp, rfl, rfl, rfl, rfl, rfl, M1, M2, E02⟩ ?_
      generalize hp : η.nx = p at *
      generalize hq : η1.nx = q at *
      clear c1 c2 m1 m2 M1 M2 E02 E1 E2
      rintro m φ η' ⟨i, hi, p0, p1, p5, p6, p7, Ma, Mb, E⟩
      have e1 : η.nx ≤ η'.nx := E.1
      have hpq : p < q := by omega
      have hpn : p < η'.nx := Ma.choose_spec.2.2.1
      have hqn : q < η'.nx := Mb.choose_spec.2.2.1
      have tk : ∀ (l : List Nat) (h : i < l.length), l.take (i + 1) = l.take i ++ [l[i]] := fun l h => by rw [List.take_succ_eq_append_getElem h]
      have frm : ∀ {η1 η2 : HN} {p' q' : Nat} {l : List Nat}, Made F η1 q' [p, q] l → p' ≠ q' → q' < η1.nx → p' ∈ [p, q] → η1.nx ≤ η2.nx → (∀ c, c < η1.nx → c ≠ p' → η2.f c = η1.f c) → Made F η2 q' [p, q] l := fun M hne hq' hm hn hf =>
        M.frame hn (hf _ hq' (Ne.symm hne)) fun b hb hbad => hf b hb fun e => hbad (e ▸ hm)
      by_cases hia : i < a.length
      · obtain ⟨w, hs, hw⟩ := ha.one (η' := η') (e := 5) (y := 1) hia la E
        obtain ⟨v3, η3, c3, Ma3, n3, f3⟩ := made_add X (by simp) (by simp; omega) Ma (hw [p] (by simp; omega)) (by simp) (by simp; omega)
        have Mb3 := frm Mb (show p ≠ q by omega) hqn (by simp) n3 f3
        have E3 : ExtB η.nx η η3 := E.trans ⟨n3, fun b hb => f3 b (by omega) (by omega)⟩
        rw [← tk a hia] at Ma3
        simp -implicitDefEqProofs (disch := omega) only [go_sem, p0, p1, p5, p6, p7, ha.len (η' := η') la, hs]
        refine thenN_call ⟨_, η3, c3, ?_⟩
        by_cases hib : i < b.length
        · obtain ⟨w2, hs2, hw2⟩ := hb.one (η' := η3) (e := 5) (y := 1) hib lb E3
          obtain ⟨v4, η4, c4, Mb4, n4, f4⟩ := made_add X (by simp) (by simp; omega) Mb3 (hw2 [q] (by simp; omega)) (by simp) (by simp; omega)
          have Ma4 := frm Ma3 (show q ≠ p by omega) (by omega) (by simp) n4 f4
          have E4 : ExtB η.nx η η4 := E3.trans ⟨n4, fun b hb => f4 b (by omega) (by omega)⟩
          rw [← tk b hib] at Mb4
          simp -implicitDefEqProofs (disch := omega) only [go_sem, p0, p1, p5, p6, p7, hb.len (η' := η3) lb, hs2]
          refine thenN_call ⟨_, η4, c4, ?_⟩
          simp -implicitDefEqProofs (disch := omega) only [go_sem, p0, p1, p5, p6, p7]
          exact ⟨m - 1, by omega, i + 1, by omega, by simp (disch := omega) only [go_sem, p0], by simp (disch := omega) only [go_sem, p1], by simp (disch := omega) only [go_sem, p5], by simp (disch := omega) only [go_sem, p6], by simp (disch := omega) only [go_sem], Ma4, Mb4, E4⟩
        · simp -implicitDefEqProofs (disch := omega) only [go_sem, p0, p1, p5, p6, p7, hb.len (η' := η3) lb]
          rw [List.take_of_length_le (by omega)] at Mb3
          exact ⟨m - 1, by omega, i + 1, by omega, by simp (disch := omega) only [go_sem, p0], by simp (disch := omega) only [go_sem, p1], by simp (disch := omega) only [go_sem, p5], by simp (disch := omega) only [go_sem, p6], by simp (disch := omega) only [go_sem], Ma3, by rw [List.take_of_length_le (by omega)]; exact Mb3, E3⟩
      · rw [List.take_of_length_le (by omega)] at Ma
        by_cases hib : i < b.length
        · obtain ⟨w2, hs2, hw2⟩ := hb.one (η' := η') (e := 5) (y := 1) hib lb E
          obtain ⟨v4, η4, c4, Mb4, n4, f4⟩ := made_add X (by simp) (by simp; omega) Mb (hw2 [q] (by simp; omega)) (by simp) (by simp; omega)
          have Ma4 := frm Ma (show q ≠ p by omega) (by omega) (by simp) n4 f4
          have E4 : ExtB η.nx η η4 := E.trans ⟨n4, fun b hb => f4 b (by omega) (by omega)⟩
          rw [← tk b hib] at Mb4
          simp -implicitDefEqProofs (disch := omega) only [go_sem, p0, p1, p5, p6, p7, ha.len (η' := η') la, hb.len (η' := η') lb, hs2]
          refine thenN_call ⟨_, η4, c4, ?_⟩
          simp -implicitDefEqProofs (disch := omega) only [go_sem, p0, p1, p5, p6, p7]
          exact ⟨m - 1, by omega, i + 1, by omega, by simp (disch := omega) only [go_sem, p0], by simp (disch := omega) only [go_sem, p1], by simp (disch := omega) only [go_sem, p5], by simp (disch := omega) only [go_sem, p6], by simp (disch := omega) only [go_sem], by rw [List.take_of_length_le (by omega)]; exact Ma4, Mb4, E4⟩
        · rw [List.take_of_length_le (by omega)] at Mb
          simp -implicitDefEqProofs (disch := omega) only [go_sem, p0, p1, p5, p6, p7, ha.len (η' := η') la, hb.len (η' := η') lb]
          obtain ⟨v3, η3, c3, rfl, E3⟩ := made_sum X Ma (by omega)
          refine thenN_call ⟨_, η3, c3, ?_⟩
          simp -implicitDefEqProofs (disch := omega) only [go_sem, p0, p1, p5, p6, p7]
          have E3' := E.trans (E3.mono e1)
          obtain ⟨v4, η4, c4, rfl, E4⟩ := of_spec X η3 za a (ha.rd (bad := []) E3' (by simp)) (by omega)
          refine thenN_call ⟨_, η4, c4, ?_⟩
          simp -implicitDefEqProofs (disch := omega) only [go_sem, p0, p1, p5, p6, p7, eq24 (sha_len a) (sha_len a)]
          have n3 := E3.1
          have Mb4 : Made F η4 q [p, q] b := Mb.frame (by have := E4.1; omega) (by rw [E4.2 q (by omega), E3.2 q hqn]) fun b hb _ => by rw [E4.2 b (by omega), E3.2 b hb]
          obtain ⟨v5, η5, c5, rfl, E5⟩ := made_sum X Mb4 (by omega)
          refine thenN_call ⟨_, η5, c5, ?_⟩
          simp -implicitDefEqProofs (disch := omega) only [go_sem, p0, p1, p5, p6, p7]
          have n4 := E4.1
          have E5' := (E3'.trans (E4.mono (by omega))).trans (E5.mono (by omega))
          obtain ⟨v6, η6, c6, rfl, E6⟩ := of_spec X η5 zb b (hb.rd (bad := []) E5' (by simp)) (by omega)
          refine thenN_call ⟨_, η6, c6, ?_⟩
          simp -implicitDefEqProofs (disch := omega) only [go_sem, p0, p1, p5, p6, p7, eq24 (sha_len b) (sha_len b)]
    · simp -implicitDefEqProofs (disch := omega) only [go_sem, ha.len (η' := η) la, hb.len (η' := η) lb]
  · simp -implicitDefEqProofs (disch := omega) only [go_sem, ha.len (η' := η) la]
end Go.Proofs.Ytfcakkiakodokaa
