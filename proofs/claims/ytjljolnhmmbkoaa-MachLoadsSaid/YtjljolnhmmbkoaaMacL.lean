/- What is proved: numbers read out of bytes. numbers read out of bytes by the document's own reader. Conditions: as each theorem says. -/
import Derived.Test.YtjljolnhmmbkoaaMacE
import Derived.Test.YtjljolnhmmbkoaaFacts
import Derived.Test.YtjljolnhmmbkoaaValA
set_option linter.unusedVariables false
set_option linter.unusedSimpArgs false
set_option linter.unusedSectionVars false
namespace Go.Plain
open Go.Eng
set_option autoImplicit false
def rdG (l : List Nat) (bad : Bool) : Nat × List Nat × Bool := match rdU l with | some (v, r) => (v, r, bad) | none => (0, [], true)
theorem rdF_lt : ∀ (f i u : Nat) (l : List Nat) (v : Nat) (r : List Nat), rdF f i u l = some (v, r) → ∃ k, r = l.drop k
 | 0, i, u, l, v, r, h => by cases l <;> cases h
 | f + 1, i, u, [], v, r, h => by cases h
 | f + 1, i, u, x :: l, v, r, h => by
  unfold rdF at h
  split at h
  ·cases h
  split at h
  ·obtain ⟨k, hk⟩ := rdF_lt f _ _ l v r h
   exact ⟨k + 1, hk⟩
  split at h
  ·cases h
  ·cases h; exact ⟨1, rfl⟩
theorem or_add {u y k : Nat} (h : u < 2 ^ k) : u ||| (y * 2 ^ k) = u + y * 2 ^ k := by
 rw [Nat.or_comm, Nat.mul_comm, ← Nat.two_pow_add_eq_or_of_lt h, Nat.add_comm]
theorem p128 (i : Nat) : 128 ^ i = 2 ^ (7 * i) := by rw [Nat.pow_mul]
set_option maxRecDepth 100000 in
theorem and128 : ∀ x, x < 256 → x &&& 128 = if 128 ≤ x then 128 else 0 := by decide
end Go.Plain
namespace Go.Proofs.Ytjljolnhmmbkoaa
open Go.Eng Go.Plain
set_option autoImplicit false
set_option maxRecDepth 100000
variable {nat : ∀ [Deep], Nats}
def RdK (η : HN) (rp : Nat) (y : AV) (l : List Nat) : Prop := Emp y l ∨ ∃ b off n cap, y = .slice b off n cap ∧ RdS η b off n cap l ∧ b < η.nx ∧ b < rp
def RdrAt (η : HN) (rp : Nat) (l : List Nat) (bad : Bool) : Prop := ∃ y, η.f rp = .live false [y, .bool bad] ∧ rp < η.nx ∧ RdK η rp y l
theorem RdK.keep {η η' : HN} {rp : Nat} {y : AV} {l : List Nat} (h : RdK η rp y l) (hn : η.nx ≤ η'.nx) (hk : ∀ b, b < η.nx → b ≠ rp → η'.f b = η.f b) : RdK η' rp y l := by
 rcases h with h | ⟨b, off, n, cap, h1, ⟨h2, h3, ro, row, h4, h5⟩, h6, h7⟩
 ·exact .inl h
 ·exact .inr ⟨b, off, n, cap, h1, ⟨h2, h3, ro, row, (hk b h6 (Nat.ne_of_lt h7)).trans h4, h5⟩, by omega, h7⟩
theorem RdrAt.keepB {η η' : HN} {rp : Nat} {l : List Nat} {bad : Bool} (h : RdrAt η rp l bad) (hn : η.nx ≤ η'.nx) (hk : ∀ b, b ≤ rp → η'.f b = η.f b) : RdrAt η' rp l bad := by
 obtain ⟨y, h1, h2, h3⟩ := h
 refine ⟨y, (hk _ (Nat.le_refl _)).trans h1, by omega, ?_⟩
 rcases h3 with h | ⟨b, off, n, cap, h1, ⟨h2, h3, ro, row, h4, h5⟩, h6, h7⟩
 ·exact .inl h
 ·exact .inr ⟨b, off, n, cap, h1, ⟨h2, h3, ro, row, (hk b (by omega)).trans h4, h5⟩, by omega, h7⟩
theorem RdK.len {η η' : HN} {rp e w : Nat} {y : AV} {l : List Nat} (h : RdK η rp y l) (hl : l.length ≤ 9223372036854775807) : lenN (.slice e 1 w) y η' = .ok (.int .i64 l.length) η' := by
 rcases h with ⟨rfl, rfl | ⟨b, off, cap, rfl⟩⟩ | ⟨b, off, n, cap, rfl, ⟨rfl, _⟩, _⟩
 ·rfl
 ·rfl
 ·rw [lenN_sl, lenI_at, if_pos hl]
theorem RdK.at {η : HN} {rp : Nat} {y : AV} {l : List Nat} (h : RdK η rp y l) {i : Nat} (hi : i < l.length) : ∃ b off cap ro row, y = .slice b off l.length cap ∧ η.f b = .live ro row ∧ b < η.nx ∧ b ≠ rp ∧ row[off + i]? = some (.int .u8 l[i]) := by
 rcases h with ⟨rfl, _⟩ | ⟨b, off, n, cap, rfl, ⟨rfl, h3, ro, row, h4, h5, h6⟩, h7, h8⟩
 ·simp at hi
 ·refine ⟨b, off, cap, ro, row, rfl, h4, h7, Nat.ne_of_lt h8, ?_⟩
  have e : (u8s l)[i]? = row[off + i]? := by rw [← h6, List.getElem?_take, if_pos hi, List.getElem?_drop]
  rw [← e]; unfold u8s; rw [List.getElem?_map, List.getElem?_eq_getElem hi]; rfl
theorem RdK.slice {η η' : HN} {rp e w i : Nat} {y : AV} {l : List Nat} (h : RdK η rp y l) (hi : i ≤ l.length) (h0 : 0 < l.length) (hl : l.length ≤ 9223372036854775807) : ∃ y', slN (.slice e 1 w) y (some (.int .i64 i)) none none η' = .ok y' η' ∧ RdK η rp y' (l.drop i) ∧ cellsV y' = some [y'] := by
 rcases h with ⟨rfl, _⟩ | ⟨b, off, n, cap, rfl, ⟨rfl, h3, ro, row, h4, h5, h6⟩, h7, h8⟩
 ·simp at h0
 have hn : nneg .i64 i = true := by rw [nnegD_i64]; exact decide_eq_true (by omega)
 have rest : ∀ cap', CapIs (l.length - i) 1 cap' → RdK η rp (.slice b (off + i * 1) (l.length - i) cap') (l.drop i) := fun cap' hc => by
  refine .inr ⟨b, off + i * 1, l.length - i, cap', rfl, ⟨by rw [List.length_drop], hc, ro, row, h4, by omega, ?_⟩, h7, h8⟩
  have : (u8s l).drop i = u8s (l.drop i) := by unfold u8s; rw [List.map_drop]
  rw [← this, ← h6, List.drop_take, List.drop_drop, Nat.mul_one]
 cases cap with
 | kn c =>
  have hc : l.length ≤ c := h3
  have e1 : slN (.slice e 1 w) (.slice b off l.length (.kn c)) (some (.int .i64 i)) none none η' = slToN b off i l.length c 1 η' := by
   rw [slN_kn, bndsN_at, bndN_s, if_pos hn, bndN_n, if_pos ⟨hi, hc⟩]
  rw [e1, slToN_at]
  by_cases hci : c = i
  ·rw [if_pos hci]
   exact ⟨_, rfl, .inl ⟨by rw [List.drop_eq_nil_of_le (by omega)], .inr ⟨_, _, _, rfl⟩⟩, rfl⟩
  ·rw [if_neg hci]
   exact ⟨_, rfl, rest _ (by show _ ≤ c - i; omega), rfl⟩
 | un es =>
  have hc : es = 1 := h3
  subst hc
  have e1 : slN (.slice e 1 w) (.slice b off l.length (.un 1)) (some (.int .i64 i)) none none η' = .ok (.slice b (off + i * 1) (l.length - i) (.un 1)) η' := by
   rw [slN_un, if_pos rfl, bndsN_at, bndN_s, if_pos hn, bndN_n, if_pos ⟨hi, Nat.le_refl _⟩]
  exact ⟨_, e1, rest _ rfl, rfl⟩
theorem spoil_then (U : Usual nat) {η : HN} {rp : Nat} {l : List Nat} {bad : Bool} {Q : AV → HN → Prop} (R : RdrAt η rp l bad) (h : ∀ v η', RdrAt η' rp [] true → η.nx = η'.nx → (∀ b, b ≠ rp → η'.f b = η.f b) → Q v η') : ∃ v η', CallN Try.prog nat 93 [.ptr rp 0] η v η' ∧ Q v η' := by
 refine call_of (PT := pl93) Try.func93 rfl (U 93 (by decide)) ok93 rfl ?_
 obtain ⟨y, r1, r2, r3⟩ := R
 simp -implicitDefEqProofs (disch := omega) only [go_sem, r1]
 refine h _ _ ⟨.nilslice, by show (if rp = rp then _ else _) = _; rw [if_pos rfl], r2, .inl ⟨rfl, .inl rfl⟩⟩ rfl fun b hb => ?_
 show (if b = rp then _ else if b = rp then _ else _) = _
 rw [if_neg hb, if_neg hb]
theorem shl_rd {a k : Nat} (h : a * 2 ^ k < 18446744073709551616) : shlN .u64 a k = a * 2 ^ k := by
 show (a * 2 ^ k) % 18446744073709551616 = _
 exact Nat.mod_eq_of_lt h
def UI (η0 : HN) (rp : Nat) (l : List Nat) (m : Nat) (φ : FN) (η : HN) : Prop := η = η0 ∧ ∃ i u, m = 10 - i ∧ i ≤ 10 ∧ φ 0 = .ptr rp 0 ∧ φ 3 = .int .u64 u ∧ φ 6 = .int .i64 i ∧ rdU l = rdF (10 - i) i u (l.drop i) ∧ u < 2 ^ (7 * i)
set_option maxHeartbeats 2000000 in
theorem rdrU_then (U : Usual nat) {η : HN} {rp : Nat} {l : List Nat} {bad : Bool} {Q : AV → HN → Prop} (R : RdrAt η rp l bad) (hx : ∀ x ∈ l, x < 256) (hl : l.length ≤ 9223372036854775807)
  (h : ∀ η', RdrAt η' rp (rdG l bad).2.1 (rdG l bad).2.2 → η.nx = η'.nx → (∀ b, b ≠ rp → η'.f b = η.f b) → Q (.int .u64 (rdG l bad).1) η') : ∃ v η', CallN Try.prog nat 55 [.ptr rp 0] η v η' ∧ Q v η' := by
 refine call_of (PT := pl55) Try.func55 rfl (U 55 (by decide)) ok55 rfl ?_
 simp -implicitDefEqProofs (disch := omega) only [go_sem]
 refine wpN_loop (UI η rp l) 10 ⟨rfl, 0, 0, rfl, by decide, rfl, rfl, rfl, rfl, by decide⟩ ?_
 rintro m φ ζ ⟨rfl, i, u, hm, hi, p0, p3, p6, hr, hu⟩
 have R0 := R
 obtain ⟨y, r1, r2, r3⟩ := R
 have ly := fun e w => r3.len (e := e) (w := w) (η' := ζ) hl
 have bad0 : rdU l = none → ∀ φ' : FN, ∃ v η', CallN Try.prog nat 93 [.ptr rp 0] ζ v η' ∧ Q (.int .u64 0) η' := fun hn φ' => spoil_then U R0 fun v η' R' n k => by
  unfold rdG at h
  rw [hn] at h
  exact h η' R' n k
 by_cases h10 : i = 10
 ·subst h10
  have hn : rdU l = none := by rw [hr]; unfold rdF; cases l.drop 10 <;> rfl
  simp -implicitDefEqProofs (disch := omega) only [go_sem, p0, p3, p6]
  obtain ⟨v, η', k, q⟩ := bad0 hn φ
  refine thenN_call ⟨v, η', k, ?_⟩
  simp -implicitDefEqProofs (disch := omega) only [go_sem]
  exact q
 by_cases hlt : i < l.length
 ·obtain ⟨b, off, cap, ro, row, ye, hb, hbn, hbr, hrw⟩ := r3.at hlt
  obtain ⟨f, hf⟩ : ∃ f, 10 - i = f + 1 := ⟨9 - i, by omega⟩
  have hd : l.drop i = l[i] :: l.drop (i + 1) := List.drop_eq_getElem_cons hlt
  rw [hf, hd, rdF] at hr
  have hxi := hx _ (List.getElem_mem hlt)
  rw [ye] at r1
  have e127 : l[i] &&& 127 = l[i] % 128 := Nat.and_two_pow_sub_one_eq_mod _ 7
  have e128 := and128 _ hxi
  by_cases h9 : i = 9 ∧ 1 < l[i]
  ·rw [if_pos h9] at hr
   obtain ⟨h91, h92⟩ := h9
   simp -implicitDefEqProofs (disch := omega) only [go_sem, p0, p3, p6, r1, hb, hrw]
   obtain ⟨v, η', k, q⟩ := bad0 hr φ
   refine thenN_call ⟨v, η', k, ?_⟩
   simp -implicitDefEqProofs (disch := omega) only [go_sem]
   exact q
  rw [if_neg h9] at hr
  have hsmall : l[i] % 128 * 2 ^ (7 * i) < 18446744073709551616 := by
   by_cases h9' : i = 9
   ·have : l[i] ≤ 1 := by
     by_cases h1 : 1 < l[i]
     ·exact absurd ⟨h9', h1⟩ h9
     ·omega
    subst h9'
    have : l[9] % 128 ≤ 1 := by omega
    calc l[9] % 128 * 2 ^ (7 * 9) ≤ 1 * 2 ^ 63 := Nat.mul_le_mul_right _ this
     _ < _ := by decide
   ·have h1 : l[i] % 128 < 128 := Nat.mod_lt _ (by decide)
    have h2 : 2 ^ (7 * i) ≤ 2 ^ 56 := Nat.pow_le_pow_right (by decide) (by omega)
    calc l[i] % 128 * 2 ^ (7 * i) ≤ 127 * 2 ^ 56 := Nat.mul_le_mul (by omega) h2
     _ < _ := by decide
  have hsh := shl_rd hsmall
  have hor := or_add (y := l[i] % 128) hu
  rw [p128] at hr
  by_cases h128 : 128 ≤ l[i]
  ·rw [if_pos h128] at hr e128
   simp -implicitDefEqProofs (disch := omega) only [go_sem, p0, p3, p6, r1, hb, hrw, e127, e128, hsh, hor]
   refine ⟨10 - (i + 1), by omega, rfl, i + 1, _, rfl, by omega, p0, rfl, rfl, by rw [hr, show 10 - (i + 1) = f by omega], ?_⟩
   have h1 : l[i] % 128 < 128 := Nat.mod_lt _ (by decide)
   have h2 : l[i] % 128 * 2 ^ (7 * i) ≤ 127 * 2 ^ (7 * i) := Nat.mul_le_mul_right _ (by omega)
   have h3 : 2 ^ (7 * (i + 1)) = 2 ^ (7 * i) * 128 := by rw [Nat.mul_add, Nat.pow_add]
   omega
  rw [if_neg h128] at hr e128
  by_cases hz : l[i] = 0 ∧ 0 < i
  ·rw [if_pos hz] at hr
   obtain ⟨hz1, hz2⟩ := hz
   have e0 : l[i] = 0 := hz1
   by_cases h9' : i = 9
   ·simp -implicitDefEqProofs (disch := omega) only [go_sem, p0, p3, p6, r1, hb, hrw, e127, e128, hsh, hor]
    obtain ⟨v, η', k, q⟩ := bad0 hr φ
    refine thenN_call ⟨v, η', k, ?_⟩
    simp -implicitDefEqProofs (disch := omega) only [go_sem]
    exact q
   ·simp -implicitDefEqProofs (disch := omega) only [go_sem, p0, p3, p6, r1, hb, hrw, e127, e128, hsh, hor]
    obtain ⟨v, η', k, q⟩ := bad0 hr φ
    refine thenN_call ⟨v, η', k, ?_⟩
    simp -implicitDefEqProofs (disch := omega) only [go_sem]
    exact q
  rw [if_neg hz] at hr
  obtain ⟨y', hs, hy', cy'⟩ := r3.slice (η' := ζ) (e := 5) (w := 1) (i := i + 1) (by omega) (by omega) hl
  rw [ye] at hs
  have hm128 : l[i] % 128 = l[i] := Nat.mod_eq_of_lt (by omega)
  have hg : rdG l bad = (u + l[i] * 2 ^ (7 * i), l.drop (i + 1), bad) := by unfold rdG; rw [hr]
  rw [hg] at h
  rw [hm128] at hsh hor e127
  have done : Q (.int .u64 (u + l[i] * 2 ^ (7 * i))) (ζ.put rp (.live false [y', .bool bad])) := by
   refine h _ ⟨y', by show (if rp = rp then _ else _) = _; rw [if_pos rfl], r2, ?_⟩ rfl fun q hq => by show (if q = rp then _ else _) = _; rw [if_neg hq]
   exact hy'.keep (Nat.le_refl _) fun q _ hq => by show (if q = rp then _ else _) = _; rw [if_neg hq]
  by_cases h9' : i = 9
  ·have : l[i] ≤ 1 := by
    by_cases h1 : 1 < l[i]
    ·exact absurd ⟨h9', h1⟩ h9
    ·omega
   by_cases h0 : l[i] = 0
   ·exact absurd ⟨h0, by omega⟩ hz
   ·simp -implicitDefEqProofs (disch := omega) only [go_sem, p0, p3, p6, r1, hb, hrw, e127, e128, hsh, hor, hs, cy']
    exact done
  ·by_cases h0 : l[i] = 0
   ·simp -implicitDefEqProofs (disch := omega) only [go_sem, p0, p3, p6, r1, hb, hrw, e127, e128, hsh, hor, hs, cy']
    exact done
   ·simp -implicitDefEqProofs (disch := omega) only [go_sem, p0, p3, p6, r1, hb, hrw, e127, e128, hsh, hor, hs, cy']
    exact done
 ·have hn : rdU l = none := by
   rw [hr, List.drop_eq_nil_of_le (by omega)]
   obtain ⟨f, hf⟩ : ∃ f, 10 - i = f + 1 := ⟨9 - i, by omega⟩
   rw [hf]; rfl
  have ly' := ly
  simp -implicitDefEqProofs (disch := omega) only [go_sem, p0, p3, p6, r1, ly]
  obtain ⟨v, η', k, q⟩ := bad0 hn φ
  refine thenN_call ⟨v, η', k, ?_⟩
  simp -implicitDefEqProofs (disch := omega) only [go_sem]
  exact q
end Go.Proofs.Ytjljolnhmmbkoaa
namespace Go.Proofs.Ytjljolnhmmbkoaa
open Go.Eng Go.Plain
set_option autoImplicit false
set_option maxRecDepth 100000
variable {nat : ∀ [Deep], Nats}
theorem fail_then (U : Usual nat) {η : HN} {rp : Nat} {l : List Nat} {bad : Bool} {Q : AV → HN → Prop} (R : RdrAt η rp l bad) (h : ∀ η', RdrAt η' rp [] true → η.nx = η'.nx → (∀ b, b ≠ rp → η'.f b = η.f b) → Q (.int .u64 0) η') : ∃ v η', CallN Try.prog nat 99 [.ptr rp 0] η v η' ∧ Q v η' := by
 refine call_of (PT := pl99) Try.func99 rfl (U 99 (by decide)) ok99 rfl ?_
 obtain ⟨y, r1, r2, r3⟩ := R
 simp -implicitDefEqProofs (disch := omega) only [go_sem, r1]
 refine h _ ⟨.nilslice, by show (if rp = rp then _ else _) = _; rw [if_pos rfl], r2, .inl ⟨rfl, .inl rfl⟩⟩ rfl fun b hb => ?_
 show (if b = rp then _ else if b = rp then _ else _) = _
 rw [if_neg hb, if_neg hb]
def WI (η0 : HN) (rp : Nat) (l : List Nat) (m : Nat) (φ : FN) (η : HN) : Prop := η = η0 ∧ ∃ i u, m = 10 - i ∧ i ≤ 10 ∧ φ 0 = .ptr rp 0 ∧ φ 3 = .int .u64 u ∧ φ 4 = .int .i64 i ∧ rdU l = rdF (10 - i) i u (l.drop i) ∧ u < 2 ^ (7 * i)
set_option maxHeartbeats 2000000 in
theorem refU_then (U : Usual nat) {η : HN} {rp : Nat} {l : List Nat} {bad : Bool} {Q : AV → HN → Prop} (R : RdrAt η rp l bad) (hx : ∀ x ∈ l, x < 256) (hl : l.length ≤ 9223372036854775807)
  (h : ∀ η', RdrAt η' rp (rdG l bad).2.1 (rdG l bad).2.2 → η.nx = η'.nx → (∀ b, b ≠ rp → η'.f b = η.f b) → Q (.int .u64 (rdG l bad).1) η') : ∃ v η', CallN Try.prog nat 69 [.ptr rp 0] η v η' ∧ Q v η' := by
 refine call_of (PT := pl69) Try.func69 rfl (U 69 (by decide)) ok69 rfl ?_
 simp -implicitDefEqProofs (disch := omega) only [go_sem]
 refine wpN_loop (WI η rp l) 10 ⟨rfl, 0, 0, rfl, by decide, rfl, rfl, rfl, rfl, by decide⟩ ?_
 rintro m φ ζ ⟨rfl, i, u, hm, hi, p0, p3, p4, hr, hu⟩
 have R0 := R
 obtain ⟨y, r1, r2, r3⟩ := R
 have ly := fun e w => r3.len (e := e) (w := w) (η' := ζ) hl
 have bad0 : rdU l = none → ∀ φ' : FN, ∃ v η', CallN Try.prog nat 99 [.ptr rp 0] ζ v η' ∧ Q v η' := fun hn φ' => fail_then U R0 fun η' R' n k => by
  unfold rdG at h
  rw [hn] at h
  exact h η' R' n k
 by_cases h10 : i = 10
 ·subst h10
  have hn : rdU l = none := by rw [hr]; unfold rdF; cases l.drop 10 <;> rfl
  by_cases hh : 10 < l.length
  ·simp -implicitDefEqProofs (disch := omega) only [go_sem, p0, p3, p4, r1, ly]
   obtain ⟨v, η', k, q⟩ := bad0 hn φ
   refine thenN_call ⟨v, η', k, ?_⟩
   simp -implicitDefEqProofs (disch := omega) only [go_sem]
   exact q
  ·simp -implicitDefEqProofs (disch := omega) only [go_sem, p0, p3, p4, r1, ly]
   obtain ⟨v, η', k, q⟩ := bad0 hn φ
   refine thenN_call ⟨v, η', k, ?_⟩
   simp -implicitDefEqProofs (disch := omega) only [go_sem]
   exact q
 by_cases hlt : i < l.length
 ·obtain ⟨b, off, cap, ro, row, ye, hb, hbn, hbr, hrw⟩ := r3.at hlt
  obtain ⟨f, hf⟩ : ∃ f, 10 - i = f + 1 := ⟨9 - i, by omega⟩
  have hd : l.drop i = l[i] :: l.drop (i + 1) := List.drop_eq_getElem_cons hlt
  rw [hf, hd, rdF] at hr
  have hxi := hx _ (List.getElem_mem hlt)
  rw [ye] at r1 ly
  have e127 : l[i] &&& 127 = l[i] % 128 := Nat.and_two_pow_sub_one_eq_mod _ 7
  have e128 := and128 _ hxi
  by_cases h9 : i = 9 ∧ 1 < l[i]
  ·rw [if_pos h9] at hr
   obtain ⟨h91, h92⟩ := h9
   simp -implicitDefEqProofs (disch := omega) only [go_sem, p0, p3, p4, r1, ly, hb, hrw]
   obtain ⟨v, η', k, q⟩ := bad0 hr φ
   refine thenN_call ⟨v, η', k, ?_⟩
   simp -implicitDefEqProofs (disch := omega) only [go_sem]
   exact q
  rw [if_neg h9] at hr
  have hsmall : l[i] % 128 * 2 ^ (7 * i) < 18446744073709551616 := by
   by_cases h9' : i = 9
   ·have : l[i] ≤ 1 := by
     by_cases h1 : 1 < l[i]
     ·exact absurd ⟨h9', h1⟩ h9
     ·omega
    subst h9'
    have : l[9] % 128 ≤ 1 := by omega
    calc l[9] % 128 * 2 ^ (7 * 9) ≤ 1 * 2 ^ 63 := Nat.mul_le_mul_right _ this
     _ < _ := by decide
   ·have h1 : l[i] % 128 < 128 := Nat.mod_lt _ (by decide)
    have h2 : 2 ^ (7 * i) ≤ 2 ^ 56 := Nat.pow_le_pow_right (by decide) (by omega)
    calc l[i] % 128 * 2 ^ (7 * i) ≤ 127 * 2 ^ 56 := Nat.mul_le_mul (by omega) h2
     _ < _ := by decide
  have hsh := shl_rd hsmall
  have hor := or_add (y := l[i] % 128) hu
  rw [p128] at hr
  by_cases h128 : 128 ≤ l[i]
  ·rw [if_pos h128] at hr e128
   simp -implicitDefEqProofs (disch := omega) only [go_sem, p0, p3, p4, r1, ly, hb, hrw, e127, e128, hsh, hor]
   refine ⟨10 - (i + 1), by omega, rfl, i + 1, _, rfl, by omega, p0, rfl, rfl, by rw [hr, show 10 - (i + 1) = f by omega], ?_⟩
   have h1 : l[i] % 128 < 128 := Nat.mod_lt _ (by decide)
   have h2 : l[i] % 128 * 2 ^ (7 * i) ≤ 127 * 2 ^ (7 * i) := Nat.mul_le_mul_right _ (by omega)
   have h3 : 2 ^ (7 * (i + 1)) = 2 ^ (7 * i) * 128 := by rw [Nat.mul_add, Nat.pow_add]
   omega
  rw [if_neg h128] at hr e128
  by_cases hz : l[i] = 0 ∧ 0 < i
  ·rw [if_pos hz] at hr
   obtain ⟨hz1, hz2⟩ := hz
   have e0 : l[i] = 0 := hz1
   by_cases h9' : i = 9
   ·simp -implicitDefEqProofs (disch := omega) only [go_sem, p0, p3, p4, r1, ly, hb, hrw, e127, e128, hsh, hor]
    obtain ⟨v, η', k, q⟩ := bad0 hr φ
    refine thenN_call ⟨v, η', k, ?_⟩
    simp -implicitDefEqProofs (disch := omega) only [go_sem]
    exact q
   ·simp -implicitDefEqProofs (disch := omega) only [go_sem, p0, p3, p4, r1, ly, hb, hrw, e127, e128, hsh, hor]
    obtain ⟨v, η', k, q⟩ := bad0 hr φ
    refine thenN_call ⟨v, η', k, ?_⟩
    simp -implicitDefEqProofs (disch := omega) only [go_sem]
    exact q
  rw [if_neg hz] at hr
  obtain ⟨y', hs, hy', cy'⟩ := r3.slice (η' := ζ) (e := 5) (w := 1) (i := i + 1) (by omega) (by omega) hl
  rw [ye] at hs
  have hm128 : l[i] % 128 = l[i] := Nat.mod_eq_of_lt (by omega)
  have hg : rdG l bad = (u + l[i] * 2 ^ (7 * i), l.drop (i + 1), bad) := by unfold rdG; rw [hr]
  rw [hg] at h
  rw [hm128] at hsh hor e127
  have done : Q (.int .u64 (u + l[i] * 2 ^ (7 * i))) (ζ.put rp (.live false [y', .bool bad])) := by
   refine h _ ⟨y', by show (if rp = rp then _ else _) = _; rw [if_pos rfl], r2, ?_⟩ rfl fun q hq => by show (if q = rp then _ else _) = _; rw [if_neg hq]
   exact hy'.keep (Nat.le_refl _) fun q _ hq => by show (if q = rp then _ else _) = _; rw [if_neg hq]
  by_cases h9' : i = 9
  ·have : l[i] ≤ 1 := by
    by_cases h1 : 1 < l[i]
    ·exact absurd ⟨h9', h1⟩ h9
    ·omega
   by_cases h0 : l[i] = 0
   ·exact absurd ⟨h0, by omega⟩ hz
   ·simp -implicitDefEqProofs (disch := omega) only [go_sem, p0, p3, p4, r1, ly, hb, hrw, e127, e128, hsh, hor, hs, cy']
    exact done
  ·by_cases h0 : l[i] = 0
   ·simp -implicitDefEqProofs (disch := omega) only [go_sem, p0, p3, p4, r1, ly, hb, hrw, e127, e128, hsh, hor, hs, cy']
    exact done
   ·simp -implicitDefEqProofs (disch := omega) only [go_sem, p0, p3, p4, r1, ly, hb, hrw, e127, e128, hsh, hor, hs, cy']
    exact done
 ·have hn : rdU l = none := by
   rw [hr, List.drop_eq_nil_of_le (by omega)]
   obtain ⟨f, hf⟩ : ∃ f, 10 - i = f + 1 := ⟨9 - i, by omega⟩
   rw [hf]; rfl
  have ly' := ly
  simp -implicitDefEqProofs (disch := omega) only [go_sem, p0, p3, p4, r1, ly]
  obtain ⟨v, η', k, q⟩ := bad0 hn φ
  refine thenN_call ⟨v, η', k, ?_⟩
  simp -implicitDefEqProofs (disch := omega) only [go_sem]
  exact q
end Go.Proofs.Ytjljolnhmmbkoaa
