/- What is proved: ShaParts's walk. Conditions: the mixing of one block is told. -/
import Derived.Test.YtfcakkiakodokaaSha6
import Derived.Test.YtfcakkiakodokaaWK
set_option linter.unusedVariables false
set_option linter.unusedSimpArgs false
set_option linter.unusedSectionVars false
namespace Go.Proofs.Ytfcakkiakodokaa
open Go.Eng
set_option autoImplicit false
set_option maxRecDepth 100000
variable {nat : ∀ [Deep], Nats} {F : List Nat → List Nat → List Nat}
/-- a slice that grows from nothing; its block lies behind p -/
def Own0 (η : HN) (x : AV) (b p : Nat) (l : List Nat) : Prop := (x = .nilslice ∧ l = [] ∧ b = p) ∨ (x = .slice b 0 l.length (.un 1) ∧ η.f b = .live false (u8s l) ∧ p < b ∧ b < η.nx)
theorem Own0.rd {η : HN} {x : AV} {b p : Nat} {l : List Nat} (h : Own0 η x b p l) : RdBk η [] x l := by
  rcases h with ⟨rfl, rfl, _⟩ | ⟨rfl, h1, h2, h3⟩
  · exact .inl ⟨rfl, .inl rfl⟩
  · exact .inr ⟨b, 0, l.length, .un 1, rfl, ⟨rfl, rfl, false, _, h1, by rw [u8s_length]; omega, by rw [List.drop_zero, List.take_of_length_le (by rw [u8s_length]; omega)]⟩, h3, by simp⟩
theorem Own0.lt {η : HN} {x : AV} {b p : Nat} {l : List Nat} (h : Own0 η x b p l) (hp : p < η.nx) : p ≤ b ∧ b < η.nx := by
  rcases h with ⟨_, _, rfl⟩ | ⟨_, _, h2, h3⟩
  · exact ⟨Nat.le_refl _, hp⟩
  · omega
theorem Own0.frame {η η' : HN} {x : AV} {b p : Nat} {l : List Nat} (h : Own0 η x b p l) (hn : η.nx ≤ η'.nx) (hf : ∀ c, c < η.nx → c ≠ p → η'.f c = η.f c) : Own0 η' x b p l := by
  rcases h with ⟨rfl, rfl, h⟩ | ⟨rfl, h1, h2, h3⟩
  · exact .inl ⟨rfl, rfl, h⟩
  · exact .inr ⟨rfl, by rw [hf b h3 (by omega)]; exact h1, h2, by omega⟩
theorem app_0 {η : HN} {x y : AV} {b p : Nat} {l m : List Nat} (hp : p < η.nx) (hx : Own0 η x b p l) (hy : RdB η y m) (hm : l.length + m.length ≤ 1099511627776) :
    ∃ x' η' b', apSrcN 1 1 x y η = .ok x' η' ∧ Own0 η' x' b' p (l ++ m) ∧ (b' = b ∨ η.nx ≤ b') ∧ η.nx ≤ η'.nx ∧ ∀ c, c < η.nx → (c ≠ b ∨ c = p) → η'.f c = η.f c := by
  have key : ∀ new : List AV, new = u8s m → ∃ x' η' b', apN 1 1 x m.length new η = .ok x' η' ∧ Own0 η' x' b' p (l ++ m) ∧ (b' = b ∨ η.nx ≤ b') ∧ η.nx ≤ η'.nx ∧ ∀ c, c < η.nx → (c ≠ b ∨ c = p) → η'.f c = η.f c := by
    intro new hnew
    subst hnew
    by_cases h0 : m = []
    · subst h0
      refine ⟨x, η, b, ?_, by rw [List.append_nil]; exact hx, .inl rfl, Nat.le_refl _, fun _ _ _ => rfl⟩
      rcases hx with ⟨rfl, rfl, _⟩ | ⟨rfl, _⟩
      · simp [apN]
      · simp at hm; simp [apN]; omega
    · have hpos : 0 < m.length := List.length_pos_iff.2 h0
      rcases hx with ⟨rfl, rfl, hbp⟩ | ⟨rfl, hr, hb, hn⟩
      · refine ⟨.slice η.nx 0 m.length (.un 1), η.new (.live false (u8s m)), η.nx, ?_, .inr ⟨rfl, ?_, hp, by show η.nx < η.nx + 1; omega⟩, .inr (Nat.le_refl _), Nat.le_succ _, fun c hc _ => ?_⟩
        · rw [apN_nil, if_neg (by omega), if_pos (by simp at hm; omega)]
        · show (if η.nx = η.nx then _ else _) = _; rw [if_pos rfl]; rfl
        · show (if c = η.nx then _ else _) = _; rw [if_neg (by omega)]
      · refine ⟨.slice η.nx 0 (l.length + m.length) (.un 1), (η.put b .none).new (.live false (u8s l ++ u8s m)), η.nx, ?_, .inr ⟨by rw [List.length_append], ?_, hp, by show η.nx < η.nx + 1; omega⟩, .inr (Nat.le_refl _), Nat.le_succ _, fun c hc hbk => ?_⟩
        · show (if (l.length + m.length) * 1 ≤ 140737488355328 then (if m.length = 0 then _ else if 1 = 1 then apUn b 0 l.length 1 m.length (u8s m) (η.f b) η else _) else _) = _
          rw [if_pos (by omega), if_neg (by omega), if_pos rfl, hr, apUn_at, u8s_length, if_neg (by omega), if_pos ⟨by omega, by rw [u8s_length]; omega⟩]
          rfl
        · show (if η.nx = η.nx then _ else _) = _; rw [if_pos rfl, u8s_app]
        · show (if c = η.nx then _ else if c = b then _ else _) = _
          rw [if_neg (by omega), if_neg (by rcases hbk with h | h <;> omega)]
  rcases hy with ⟨rfl, rfl | ⟨b2, off, cap, rfl⟩⟩ | ⟨b2, off, n, cap, rfl, h1, h2, ro, row, h3, h4, h5⟩
  · exact key [] rfl
  · obtain ⟨x', η', b', e, r⟩ := key [] rfl
    exact ⟨x', η', b', by rw [apSrc_sl, if_pos rfl]; exact e, r⟩
  · subst h1
    by_cases h0 : m.length = 0
    · obtain rfl : m = [] := List.eq_nil_of_length_eq_zero h0
      obtain ⟨x', η', b', e, r⟩ := key [] rfl
      exact ⟨x', η', b', by rw [apSrc_sl, if_pos h0]; exact e, r⟩
    · obtain ⟨x', η', b', e, r⟩ := key _ h5
      refine ⟨x', η', b', ?_, r⟩
      rw [apSrc_sl, if_neg h0, h3, Nat.mul_one, rowN_at, if_pos h4]
      exact e
theorem RdBk.rdB {η : HN} {bad : List Nat} {y : AV} {l : List Nat} (h : RdBk η bad y l) : RdB η y l := by
  rcases h with h | ⟨b, off, n, cap, h1, h2, _⟩
  · exact .inl h
  · exact .inr ⟨b, off, n, cap, h1, h2⟩
/-- a digest in the making stays one where only other blocks change -/
theorem made_bad {η η' : HN} {p : Nat} {bad bad' : List Nat} {l : List Nat} (h : Made F η p bad l) (hn : η.nx ≤ η'.nx) (hp : η'.f p = η.f p) (hf : ∀ b, b < η.nx → b ∉ bad → η'.f b = η.f b) (hb : ∀ c ∈ bad', c ∈ bad ∨ η.nx ≤ c) : Made F η' p bad' l := by
  obtain ⟨y, h1, h2, h3, h4⟩ := h
  refine ⟨y, by rw [hp]; exact h1, h2, by omega, ?_⟩
  rcases h4 with h4 | ⟨b, off, n, cap, rfl, hr, hb1, hb2⟩
  · exact .inl h4
  · obtain ⟨q1, q2, ro, row, q3, q4⟩ := hr
    exact .inr ⟨b, off, n, cap, rfl, ⟨q1, q2, ro, row, by rw [hf b hb1 hb2]; exact q3, q4⟩, by omega, fun hc => (hb b hc).elim hb2 fun h => by omega⟩
def PartI (F : List Nat → List Nat → List Nat) (η : HN) (z : AV) (ls : List (List Nat)) (a p : Nat) (m : Nat) (φ : FN) (η' : HN) : Prop :=
  ∃ i x b, i + m = ls.length ∧ φ 0 = z ∧ φ 1 = .int .i64 a ∧ φ 5 = .ptr p 0 ∧ φ 6 = x ∧ φ 7 = .int .i64 i ∧ Made F η' p [p, b] (ls.take i).flatten ∧ Own0 η' x b p (ls.take i).flatten ∧ (ls.take i).flatten.length ≤ 300 * i ∧ ExtB η.nx η η'
theorem parts_spec (X : Ctx nat F) (h5 : ∀ [Deep], nat 5 = none) (h8 : ∀ [Deep], nat 8 = some trueNat) (η : HN) (z : AV) (ls : List (List Nat)) (a : Nat) (hz : ArgR η z ls) (hl : ls.length ≤ 9223372036854775807) (hll : ∀ l ∈ ls, l.length ≤ 9223372036854775807) :
    ∃ v η', CallN Try.prog nat 5 [z, .int .i64 a] η v η' ∧ v = .bool true := by
  refine call_of (PT := pl5) Try.func5 rfl h5 ok5 rfl ?_
  simp -implicitDefEqProofs (disch := omega) only [go_sem]
  refine thenN_call ⟨_, _, callN_true h8, ?_⟩
  by_cases la3 : ls.length ≤ 12
  · simp -implicitDefEqProofs (disch := omega) only [go_sem, hz.len (η' := η) hl]
    obtain ⟨v1, η1, c1, rfl, m1, E1⟩ := new_spec X η
    refine thenN_call ⟨_, η1, c1, ?_⟩
    simp -implicitDefEqProofs (disch := omega) only [go_sem]
    have n1 : η.nx < η1.nx := (m1 []).choose_spec.2.2.1
    refine wpN_loop (PartI F η z ls a η.nx) ls.length ⟨0, .nilslice, η.nx, by simp, rfl, rfl, rfl, rfl, rfl, Made.zero (m1 _), .inl ⟨rfl, rfl, rfl⟩, by simp, E1⟩ ?_
    generalize hp : η.nx = p at *
    clear c1 m1 E1
    rintro m φ η' ⟨i, x, b, hi, p0, p1, p5, p6, p7, M, O, hL, E⟩
    have e1 : η.nx ≤ η'.nx := by have := E.1; omega
    have hpn : p < η'.nx := M.choose_spec.2.2.1
    have hb := O.lt hpn
    generalize hLL : (ls.take i).flatten = L at *
    by_cases hia : i < ls.length
    · rcases hz with ⟨rfl, _⟩ | ⟨bz, c, zs, rfl, z1, z2, z3, z4, z5⟩
      · simp at hia
      obtain ⟨y, hy, hya⟩ := z5 i hia
      have hbz : η'.f bz = .live true zs := by rw [E.2 bz (by omega)]; exact z2
      have tk : (ls.take (i + 1)).flatten = L ++ ls[i] := by rw [List.take_succ_eq_append_getElem hia, List.flatten_append, hLL]; simp
      have hli := hll ls[i] (List.getElem_mem hia)
      generalize ls[i] = l at *
      have l1 : ∀ η', lenN (.slice 5 1 1) y η' = .ok (.int .i64 l.length) η' := fun η' => hya.len (η' := η') (e := 5) (y := 1) hli
      by_cases hl3 : l.length ≤ 300
      · simp -implicitDefEqProofs (disch := omega) only [go_sem, p0, p1, p5, p6, p7, hbz, hy, l1]
        obtain ⟨v3, η3, c3, M3, n3, f3⟩ := made_add X (show p ∈ [p, b] by simp) (by simp; omega) M (hya.rd (bad := [p]) E (by simp; omega)) (by omega) (by omega)
        refine thenN_call ⟨_, η3, c3, ?_⟩
        have O3 := O.frame n3 f3
        have hbz3 : η3.f bz = .live true zs := by rw [f3 bz (by omega) (by omega)]; exact hbz
        have E3 : ExtB η.nx η η3 := E.trans ⟨n3, fun c hc => f3 c (by omega) (by omega)⟩
        obtain ⟨x4, η4, b4, c4, O4, hb4, n4, f4⟩ := app_0 (by omega) O3 (hya.rd (bad := []) E3 (by simp)).rdB (by omega)
        have p4 : p < η4.nx := by omega
        have hbad4 : ∀ c ∈ [p, b4], c ∈ [p, b] ∨ η3.nx ≤ c := fun c hc => by
          simp at hc ⊢
          rcases hc with h | h
          · exact .inl (.inl h)
          · rcases hb4 with h' | h'
            · exact .inl (.inr (h.trans h'))
            · exact .inr (h ▸ h')
        have M4 : Made F η4 p [p, b4] (L ++ l) := made_bad M3 n4 (f4 p (by omega) (.inr rfl)) (fun c hc hbad => f4 c hc (.inl fun e => hbad (by simp [e]))) hbad4
        have E4 : ExtB η.nx η η4 := E3.trans ⟨n4, fun c hc => f4 c (by omega) (.inl (by omega))⟩
        have hll4 : (L ++ l).length ≤ 300 * (i + 1) := by rw [List.length_append]; omega
        by_cases hask : a &&& shlN .i64 1 i = 0
        · simp -implicitDefEqProofs (disch := omega) only [go_sem, p0, p1, p5, p6, p7, hbz3, hy, c4, hask, decide_true, Bool.not_true]
          refine ⟨m - 1, by omega, i + 1, x4, b4, by omega, by simp (disch := omega) only [go_sem, p0], by simp (disch := omega) only [go_sem, p1], by simp (disch := omega) only [go_sem, p5], by simp (disch := omega) only [go_sem], by simp (disch := omega) only [go_sem], ?_, ?_, ?_, E4⟩
          all_goals rw [tk]
          · exact M4
          · exact O4
          · exact hll4
        · simp -implicitDefEqProofs (disch := omega) only [go_sem, p0, p1, p5, p6, p7, hbz3, hy, c4, hask, decide_false, Bool.not_false]
          obtain ⟨v5, η5, c5, rfl, E5⟩ := made_sum X M4 (by omega)
          refine thenN_call ⟨_, η5, c5, ?_⟩
          simp -implicitDefEqProofs (disch := omega) only [go_sem, p0, p1, p5, p6, p7]
          have O5 := O4.frame E5.1 (fun c hc _ => E5.2 c hc)
          obtain ⟨v6, η6, c6, rfl, E6⟩ := of_spec X η5 x4 (L ++ l) O5.rd (by omega)
          refine thenN_call ⟨_, η6, c6, ?_⟩
          have n5 := E5.1
          have n6 := E6.1
          have M6 : Made F η6 p [p, b4] (L ++ l) := made_bad M4 (by omega) (by rw [E6.2 p (by omega), E5.2 p (by omega)]) (fun c hc _ => by rw [E6.2 c (by omega), E5.2 c hc]) (fun c hc => .inl hc)
          have O6 := O5.frame E6.1 (fun c hc _ => E6.2 c hc)
          have E06 : ExtB η.nx η η6 := (E4.trans (E5.mono (by omega))).trans (E6.mono (by omega))
          simp -implicitDefEqProofs (disch := omega) only [go_sem, p0, p1, p5, p6, p7, eq24 (sha_len (L ++ l)) (sha_len (L ++ l)), decide_true, Bool.not_true]
          refine ⟨m - 1, by omega, i + 1, x4, b4, by omega, by simp (disch := omega) only [go_sem, p0], by simp (disch := omega) only [go_sem, p1], by simp (disch := omega) only [go_sem, p5], by simp (disch := omega) only [go_sem], by simp (disch := omega) only [go_sem], ?_, ?_, ?_, E06⟩
          all_goals rw [tk]
          · exact M6
          · exact O6
          · exact hll4
      · simp -implicitDefEqProofs (disch := omega) only [go_sem, p0, p1, p5, p6, p7, hbz, hy, l1]
    · simp -implicitDefEqProofs (disch := omega) only [go_sem, p0, p1, p5, p6, p7, hz.len (η' := η') hl]
      obtain ⟨v5, η5, c5, rfl, E5⟩ := made_sum X M (by omega)
      refine thenN_call ⟨_, η5, c5, ?_⟩
      simp -implicitDefEqProofs (disch := omega) only [go_sem, p0, p1, p5, p6, p7]
      have O5 := O.frame E5.1 (fun c hc _ => E5.2 c hc)
      obtain ⟨v6, η6, c6, rfl, E6⟩ := of_spec X η5 x L O5.rd (by omega)
      refine thenN_call ⟨_, η6, c6, ?_⟩
      have n5 := E5.1
      have n6 := E6.1
      have M6 : Made F η6 p [p, b] L := made_bad M (by omega) (by rw [E6.2 p (by omega), E5.2 p (by omega)]) (fun c hc _ => by rw [E6.2 c (by omega), E5.2 c hc]) (fun c hc => .inl hc)
      have O6 := O5.frame E6.1 (fun c hc _ => E6.2 c hc)
      simp -implicitDefEqProofs (disch := omega) only [go_sem, p0, p1, p5, p6, p7, eq24 (sha_len L) (sha_len L)]
      obtain ⟨v7, η7, c7, rfl, E7⟩ := made_sum X M6 (by omega)
      refine thenN_call ⟨_, η7, c7, ?_⟩
      simp -implicitDefEqProofs (disch := omega) only [go_sem, p0, p1, p5, p6, p7]
      have O7 := O6.frame E7.1 (fun c hc _ => E7.2 c hc)
      obtain ⟨v8, η8, c8, rfl, E8⟩ := of_spec X η7 x L O7.rd (by omega)
      refine thenN_call ⟨_, η8, c8, ?_⟩
      simp -implicitDefEqProofs (disch := omega) only [go_sem, p0, p1, p5, p6, p7, eq24 (sha_len L) (sha_len L)]
  · simp -implicitDefEqProofs (disch := omega) only [go_sem, hz.len (η' := η) hl]
end Go.Proofs.Ytfcakkiakodokaa
