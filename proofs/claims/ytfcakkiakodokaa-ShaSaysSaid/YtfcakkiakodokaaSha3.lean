/- What is proved: what New, Add do. Conditions: the mixing of one block is told. -/
import Derived.Test.YtfcakkiakodokaaSha2
set_option linter.unusedVariables false
set_option linter.unusedSimpArgs false
set_option linter.unusedSectionVars false
namespace Go.Proofs.Ytfcakkiakodokaa
open Go.Eng
set_option autoImplicit false
set_option maxRecDepth 100000
variable {nat : ∀ [Deep], Nats} {F : List Nat → List Nat → List Nat}
def H0 : List Nat := [0x6a09e667, 0xbb67ae85, 0x3c6ef372, 0xa54ff53a, 0x510e527f, 0x9b05688c, 0x1f83d9ab, 0x5be0cd19]
/-- a slice of bytes, or nil, whose block is none of the bad ones -/
def RdBk (η : HN) (bad : List Nat) (y : AV) (l : List Nat) : Prop := Emp y l ∨ ∃ b off n cap, y = .slice b off n cap ∧ RdS η b off n cap l ∧ b < η.nx ∧ b ∉ bad
/-- a digest in the making -/
def HashAt (η : HN) (p : Nat) (bad : List Nat) (h left : List Nat) (n : Nat) : Prop := ∃ y, η.f p = .live false (u32s h ++ [y, .int .u64 n]) ∧ h.length = 8 ∧ p < η.nx ∧ RdBk η bad y left
theorem RdBk.frame {η η' : HN} {bad : List Nat} {y : AV} {l : List Nat} (h : RdBk η bad y l) (hn : η.nx ≤ η'.nx) (hf : ∀ b, b < η.nx → b ∉ bad → η'.f b = η.f b) : RdBk η' bad y l := by
  rcases h with h | ⟨b, off, n, cap, h1, ⟨h2, h3, ro, row, h4, h5⟩, h6, h7⟩
  · exact .inl h
  · exact .inr ⟨b, off, n, cap, h1, ⟨h2, h3, ro, row, by rw [hf b h6 h7]; exact h4, h5⟩, by omega, h7⟩
theorem HashAt.frame {η η' : HN} {p : Nat} {bad : List Nat} {h left : List Nat} {n : Nat} (x : HashAt η p bad h left n) (hn : η.nx ≤ η'.nx) (hp : η'.f p = η.f p) (hf : ∀ b, b < η.nx → b ∉ bad → η'.f b = η.f b) : HashAt η' p bad h left n := by
  obtain ⟨y, h1, h2, h3, h4⟩ := x
  exact ⟨y, by rw [hp]; exact h1, h2, by omega, h4.frame hn hf⟩
theorem new_spec (X : Ctx nat F) (η : HN) : ∃ v η', CallN Try.prog nat 13 [] η v η' ∧ v = .ptr η.nx 0 ∧ (∀ bad, HashAt η' η.nx bad H0 [] 0) ∧ ExtB η.nx η η' := by
  refine call_of (PT := pl13) Try.func13 rfl (X.none 13 (by simp)) ok13 rfl ?_
  simp -implicitDefEqProofs (disch := omega) only [go_sem]
  refine ⟨fun bad => ⟨.nilslice, ?_, rfl, Nat.lt_succ_self _, .inl ⟨rfl, .inl rfl⟩⟩, .new (Nat.le_refl _)⟩
  show (if η.nx = η.nx then _ else _) = _; rw [if_pos rfl]; rfl
theorem hget8 {h : List Nat} {y z : AV} (h8 : h.length = 8) : (u32s h ++ [y, z])[8]? = some y := by
  rw [List.getElem?_append_right (by rw [u32s_length]; omega), u32s_length, h8]; rfl
theorem hget9 {h : List Nat} {y z : AV} (h8 : h.length = 8) : (u32s h ++ [y, z])[9]? = some z := by
  rw [List.getElem?_append_right (by rw [u32s_length]; omega), u32s_length, h8]; rfl
theorem hset8 {h : List Nat} {y z x : AV} (h8 : h.length = 8) : (u32s h ++ [y, z]).set 8 x = u32s h ++ [x, z] := by
  rw [List.set_append_right _ _ (by rw [u32s_length]; omega), u32s_length, h8]; rfl
theorem hset9 {h : List Nat} {y z x : AV} (h8 : h.length = 8) : (u32s h ++ [y, z]).set 9 x = u32s h ++ [y, x] := by
  rw [List.set_append_right _ _ (by rw [u32s_length]; omega), u32s_length, h8]; rfl
theorem htake {h : List Nat} {t : List AV} (h8 : h.length = 8) : (u32s h ++ t).take 8 = u32s h := by
  rw [List.take_append_of_le_length (by rw [u32s_length]; omega), List.take_of_length_le (by rw [u32s_length]; omega)]
theorem hset0 {h g : List Nat} {t : List AV} (h8 : h.length = 8) (g8 : g.length = 8) : setsL (u32s h ++ t) 0 (u32s g) = u32s g ++ t := by
  obtain ⟨a0, a1, a2, a3, a4, a5, a6, a7, rfl⟩ : ∃ a0 a1 a2 a3 a4 a5 a6 a7, h = [a0, a1, a2, a3, a4, a5, a6, a7] := by
    match h, h8 with | [a0, a1, a2, a3, a4, a5, a6, a7], _ => exact ⟨_, _, _, _, _, _, _, _, rfl⟩
  obtain ⟨b0, b1, b2, b3, b4, b5, b6, b7, rfl⟩ : ∃ a0 a1 a2 a3 a4 a5 a6 a7, g = [a0, a1, a2, a3, a4, a5, a6, a7] := by
    match g, g8 with | [a0, a1, a2, a3, a4, a5, a6, a7], _ => exact ⟨_, _, _, _, _, _, _, _, rfl⟩
  rfl
theorem add_spec (X : Ctx nat F) (η : HN) (p : Nat) (bad : List Nat) (h left l : List Nat) (n m : Nat) (z : AV) (hp : p ∈ bad) (hb : ∀ c ∈ bad, c < η.nx) (x : HashAt η p bad h left n) (hz : RdBk η [p] z l) (hml : m = l.length)
    (hl : left.length < 64) (hm : m ≤ 549755813888) (hn : n ≤ 549755813888) :
    ∃ v η', CallN Try.prog nat 14 [.ptr p 0, z] η v η' ∧ HashAt η' p bad (blkF F h (left ++ l)) (restF (left ++ l)) (n + m) ∧ η.nx ≤ η'.nx ∧ (∀ c, c < η.nx → c ≠ p → η'.f c = η.f c) := by
  obtain ⟨y, h1, h8, hpn, hy⟩ := x
  have hu8 := u32s_length h
  refine call_of (PT := pl14) Try.func14 rfl (X.none 14 (by simp)) ok14 rfl ?_
  simp -implicitDefEqProofs (disch := omega) only [go_sem, h1, hget8 h8]
  have hbase : ExtB η.nx η (η.new (.live false [])) := .new (Nat.le_refl _)
  have hyb : RdB (η.new (.live false [])) y left := by
    rcases hy with hy | ⟨b', off', n', cap', q1, q2, q3, _⟩
    · exact .inl hy
    · exact .inr ⟨b', off', n', cap', q1, q2.ext hbase q3⟩
  obtain ⟨x1, η1, e1, o1, E1, _⟩ := app_own (base := η.nx) (x := .slice η.nx 0 0 (.kn 0)) (l := []) (η := η.new (.live false [])) ⟨η.nx, Nat.le_refl _, Nat.lt_succ_self _, .inl ⟨rfl, rfl, [], by show (if η.nx = η.nx then _ else _) = _; rw [if_pos rfl]⟩⟩ hyb (by simp; omega)
  rw [List.nil_append] at o1
  have E1' := hbase.trans E1
  obtain ⟨x2, η2, e2, o2, E2, _⟩ := app_own (base := η.nx) (y := z) (m := l) o1 (by
    rcases hz with hz | ⟨b', off', n', cap', q1, q2, q3, _⟩
    · exact .inl hz
    · exact .inr ⟨b', off', n', cap', q1, q2.ext E1' q3⟩) (by omega)
  have hlen : lenN (.slice 5 1 1) z η2 = .ok (.int .i64 m) η2 := by
    rcases hz with ⟨rfl, rfl | ⟨b', off', cap', rfl⟩⟩ | ⟨b', off', n', cap', rfl, q2, _, _⟩
    · subst hml; rfl
    · subst hml; rfl
    · have := q2.1
      subst hml
      rw [lenN_sl, lenI_at, if_pos (by omega), this]
  have E2' := E1'.trans E2
  obtain ⟨b2, n2, c2, rfl, q1, q2, r2⟩ := o2.rd
  have hp2 : η2.f p = .live false (u32s h ++ [y, .int .u64 n]) := (E2'.2 p hpn).trans h1
  have hlr := r2.1
  have n12 := E2'.1
  rw [List.length_append] at hlr
  simp -implicitDefEqProofs (disch := omega) only [go_sem, e1, e2, hlen, hp2, hget9 h8, hset9 h8, htake h8]
  have r3 : RdS (η2.put p (.live false (u32s h ++ [y, .int .u64 (n + m)]))) b2 0 n2 c2 (left ++ l) := by
    obtain ⟨a1, a2, ro, row, a3, a4⟩ := r2
    exact ⟨a1, a2, ro, row, by show (if b2 = p then _ else _) = _; rw [if_neg (by omega)]; exact a3, a4⟩
  obtain ⟨v, η4, hc, ⟨o4, n4, c4, rfl, r4⟩, E4⟩ := blocks_spec X h h8 b2 0 n2 c2 (left ++ l) (η2.put p (.live false (u32s h ++ [y, .int .u64 (n + m)]))) q2 r3 (by omega)
  refine thenN_call ⟨_, η4, hc, ?_⟩
  have hp4 : η4.f p = .live false (u32s h ++ [y, .int .u64 (n + m)]) := (E4.2 p (by show p < η2.nx; omega)).trans (by show (if p = p then _ else _) = _; rw [if_pos rfl])
  have k8 := blkF_len F X.len h (left ++ l) h8
  have hu8' := u32s_length (blkF F h (left ++ l))
  simp -implicitDefEqProofs (disch := omega) only [go_sem, hp4, hset0 h8 k8]
  generalize hη5 : η4.put p (.live false (u32s (blkF F h (left ++ l)) ++ [y, .int .u64 (n + m)])) = η5
  have n24 : η2.nx ≤ η4.nx := E4.1
  have hn5 : η5.nx = η4.nx := by rw [← hη5]; rfl
  have p5 : η5.f p = .live false (u32s (blkF F h (left ++ l)) ++ [y, .int .u64 (n + m)]) := by rw [← hη5]; show (if p = p then _ else _) = _; rw [if_pos rfl]
  have f5 : ∀ c, c ≠ p → η5.f c = η4.f c := fun c hc => by rw [← hη5]; show (if c = p then _ else _) = _; rw [if_neg hc]
  have hbase5 : ExtB η5.nx η5 (η5.new (.live false [])) := .new (Nat.le_refl _)
  have y5 : RdB (η5.new (.live false [])) (.slice b2 o4 n4 c4) (restF (left ++ l)) := by
    obtain ⟨a1, a2, ro, row, a3, a4⟩ := r4
    exact .inr ⟨b2, o4, n4, c4, rfl, a1, a2, ro, row, by rw [hbase5.2 b2 (by omega), f5 b2 (by omega)]; exact a3, a4⟩
  obtain ⟨x6, η6, e6, o6, E6, _⟩ := app_own (base := η5.nx) (x := .slice η4.nx 0 0 (.kn 0)) (l := []) (η := η5.new (.live false [])) ⟨η4.nx, by omega, by show η4.nx < η5.nx + 1; omega, .inl ⟨rfl, rfl, [], by show (if η4.nx = η5.nx then _ else _) = _; rw [if_pos hn5.symm]⟩⟩ y5 (by have := restF_lt (left ++ l); simp; omega)
  rw [List.nil_append] at o6
  have E6' := hbase5.trans E6
  obtain ⟨b6, n6, c6, rfl, s1, s2, r6⟩ := o6.rd
  have hp6 : η6.f p = .live false (u32s (blkF F h (left ++ l)) ++ [y, .int .u64 (n + m)]) := (E6'.2 p (by omega)).trans p5
  simp -implicitDefEqProofs (disch := omega) only [go_sem, e6, hp6, hset8 k8]
  have E65 := E6'.1
  refine ⟨⟨.slice b6 0 n6 c6, ?_, k8, by show p < η6.nx; omega, .inr ⟨b6, 0, n6, c6, rfl, ?_, s2, fun hb6 => ?_⟩⟩, by omega, fun c hc hcp => ?_⟩
  · show (if p = p then _ else _) = _; rw [if_pos rfl]
  · obtain ⟨a1, a2, ro, row, a3, a4⟩ := r6
    exact ⟨a1, a2, ro, row, by show (if b6 = p then _ else _) = _; rw [if_neg (by omega)]; exact a3, a4⟩
  · have := hb b6 hb6; omega
  · show (if c = p then _ else _) = _
    rw [if_neg hcp, E6'.2 c (by omega), f5 c hcp, E4.2 c (by show c < η2.nx; omega)]
    show (if c = p then _ else _) = _
    rw [if_neg hcp, E2'.2 c hc]
end Go.Proofs.Ytfcakkiakodokaa
