/- What is proved: readers of numbers, made and asked. a state, loaded. a state, loaded by the document's own machine. Conditions: as each theorem says. -/
import Derived.Test.YtjljolnhmmbkoaaMacL
import Derived.Test.YtjljolnhmmbkoaaMacD
import Derived.Test.YtjljolnhmmbkoaaMacK
set_option linter.unusedVariables false
set_option linter.unusedSimpArgs false
set_option linter.unusedSectionVars false
namespace Go.Plain
open Go.Eng
set_option autoImplicit false
theorem rdF_val : ∀ (f i u : Nat) (l : List Nat) (v : Nat) (r : List Nat), f + i = 10 → u < 128 ^ i → rdF f i u l = some (v, r) → v < 18446744073709551616
 | 0, i, u, l, v, r, _, _, h => by cases l <;> cases h
 | f + 1, i, u, [], v, r, _, _, h => by cases h
 | f + 1, i, u, x :: l, v, r, hf, hu, h => by
  unfold rdF at h
  have hs : 128 ^ (i + 1) = 128 ^ i * 128 := by rw [Nat.pow_succ]
  split at h
  ·cases h
  rename_i h9
  split at h
  ·have h1 : x % 128 < 128 := Nat.mod_lt _ (by decide)
   have h2 : x % 128 * 128 ^ i ≤ 127 * 128 ^ i := Nat.mul_le_mul_right _ (by omega)
   exact rdF_val f (i + 1) _ l v r (by omega) (by omega) h
  rename_i hx
  split at h
  ·cases h
  ·cases h
   by_cases hi : i = 9
   ·subst hi
    have : x ≤ 1 := by
     by_cases h1 : 1 < x
     ·exact absurd ⟨rfl, h1⟩ h9
     ·omega
    have h2 : x * 128 ^ 9 ≤ 1 * 128 ^ 9 := Nat.mul_le_mul_right _ this
    have h3 : (128 : Nat) ^ 9 = 9223372036854775808 := by decide
    omega
   ·have h2 : x * 128 ^ i ≤ 127 * 128 ^ i := Nat.mul_le_mul_right _ (by omega)
    have h4 : 128 ^ (i + 1) ≤ 128 ^ 9 := Nat.pow_le_pow_right (by decide) (by omega)
    have h3 : (128 : Nat) ^ 9 = 9223372036854775808 := by decide
    omega
theorem rdG_lt (l : List Nat) (bad : Bool) : (rdG l bad).1 < 18446744073709551616 := by
 unfold rdG
 cases h : rdU l with
 | none => show 0 < _; omega
 | some x => obtain ⟨v, r⟩ := x; exact rdF_val 10 0 0 l v r rfl (by decide) h
theorem rdG_rest (l : List Nat) (bad : Bool) : ∀ x ∈ (rdG l bad).2.1, x ∈ l := by
 unfold rdG
 cases h : rdU l with
 | none => intro x hx; cases hx
 | some x =>
  obtain ⟨v, r⟩ := x
  obtain ⟨k, rfl⟩ := rdF_lt 10 0 0 l v r h
  intro x hx
  exact List.mem_of_mem_drop hx
theorem rdG_len (l : List Nat) (bad : Bool) : (rdG l bad).2.1.length ≤ l.length := by
 unfold rdG
 cases h : rdU l with
 | none => exact Nat.zero_le _
 | some x =>
  obtain ⟨v, r⟩ := x
  obtain ⟨k, rfl⟩ := rdF_lt 10 0 0 l v r h
  show (l.drop k).length ≤ _
  rw [List.length_drop]; omega
end Go.Plain
namespace Go.Proofs.Ytjljolnhmmbkoaa
open Go.Eng Go.Plain
set_option autoImplicit false
set_option maxRecDepth 100000
variable {nat : ∀ [Deep], Nats}
theorem uz_shr {u : Nat} (h : u < 18446744073709551616) : (u / 2) ^^^ ((18446744073709551616 - u % 2) % 18446744073709551616) = uz u := by
 unfold uz
 by_cases h0 : u % 2 = 0
 ·rw [if_pos h0, h0]
  show (u / 2) ^^^ 0 = _
  exact Nat.xor_zero _
 ·have h1 : u % 2 = 1 := by omega
  rw [if_neg h0, h1]
  show (u / 2) ^^^ 18446744073709551615 = _
  exact xor_ones (by omega)
theorem rdrI_then (U : Usual nat) {η : HN} {rp : Nat} {l : List Nat} {bad : Bool} {Q : AV → HN → Prop} (R : RdrAt η rp l bad) (hx : ∀ x ∈ l, x < 256) (hl : l.length ≤ 9223372036854775807)
  (h : ∀ η', RdrAt η' rp (rdG l bad).2.1 (rdG l bad).2.2 → η.nx = η'.nx → (∀ b, b ≠ rp → η'.f b = η.f b) → Q (.int .i64 (uz (rdG l bad).1)) η') : ∃ v η', CallN Try.prog nat 57 [.ptr rp 0] η v η' ∧ Q v η' := by
 refine call_of (PT := pl57) Try.func57 rfl (U 57 (by decide)) ok57 rfl ?_
 simp -implicitDefEqProofs (disch := omega) only [go_sem]
 refine thenN_call (rdrU_then U R hx hl fun η' R' n k => ?_)
 have hv := rdG_lt l bad
 have hq := h η' R' n k
 generalize (rdG l bad).1 = w at *
 have e1 : shrN .u64 w 1 = w / 2 := shr_u64 hv
 rw [← uz_shr hv] at hq
 simp -implicitDefEqProofs (disch := omega) only [go_sem, e1, Nat.and_one_is_mod]
 exact hq
theorem refI_then (U : Usual nat) {η : HN} {rp : Nat} {l : List Nat} {bad : Bool} {Q : AV → HN → Prop} (R : RdrAt η rp l bad) (hx : ∀ x ∈ l, x < 256) (hl : l.length ≤ 9223372036854775807)
  (h : ∀ η', RdrAt η' rp (rdG l bad).2.1 (rdG l bad).2.2 → η.nx = η'.nx → (∀ b, b ≠ rp → η'.f b = η.f b) → Q (.int .i64 (uz (rdG l bad).1)) η') : ∃ v η', CallN Try.prog nat 70 [.ptr rp 0] η v η' ∧ Q v η' := by
 refine call_of (PT := pl70) Try.func70 rfl (U 70 (by decide)) ok70 rfl ?_
 simp -implicitDefEqProofs (disch := omega) only [go_sem]
 refine thenN_call (refU_then U R hx hl fun η' R' n k => ?_)
 have hv := rdG_lt l bad
 have hq := h η' R' n k
 generalize (rdG l bad).1 = w at *
 unfold uz at hq
 by_cases h0 : w % 2 = 0
 ·rw [if_pos h0] at hq
  simp -implicitDefEqProofs (disch := omega) only [go_sem]
  exact hq
 ·rw [if_neg h0] at hq
  have e : ((18446744073709551616 - w / 2) % 18446744073709551616 + (18446744073709551616 - 1)) % 18446744073709551616 = 18446744073709551615 - w / 2 := by omega
  simp -implicitDefEqProofs (disch := omega) only [go_sem, e]
  exact hq
theorem read_then (U : Usual nat) {η : HN} {y : AV} {l : List Nat} {Q : AV → HN → Prop} (hy : RdA 1 η y l.length (u8s l)) (hl : l.length ≤ 1099511627776)
  (h : ∀ rp η', RdrAt η' rp l false → η.nx ≤ rp → ExtB η.nx η η' → Q (.ptr rp 0) η') : ∃ v η', CallN Try.prog nat 54 [y] η v η' ∧ Q v η' := by
 refine call_of (PT := pl54) Try.func54 rfl (U 54 (by decide)) ok54 rfl ?_
 simp -implicitDefEqProofs (disch := omega) only [go_sem]
 have E0 : ExtB η.nx η (η.new (.live false [])) := .new (Nat.le_refl _)
 refine thenN_app (base := η.nx) (by decide) .new0 (hy.ext E0) (by omega) E0.1 fun x1 η1 o1 E1 => ?_
 rw [List.nil_append, Nat.zero_add] at o1
 have c1 := OwnA.cells1 o1
 simp -implicitDefEqProofs (disch := omega) only [go_sem, c1]
 have n1 := E1.1
 have n1 : η.nx + 1 ≤ η1.nx := n1
 refine h η1.nx _ ⟨x1, by show (if η1.nx = η1.nx then _ else _) = _; rw [if_pos rfl], Nat.lt_succ_self _, ?_⟩ (by omega) ((E0.trans E1).trans (.new (by omega)))
 obtain ⟨h0, ⟨rfl, h1⟩ | ⟨b, h1, h2, ⟨rfl, h3, _⟩ | ⟨rfl, h3⟩⟩⟩ := o1
 ·exact .inl ⟨List.eq_nil_of_length_eq_zero h1, .inl rfl⟩
 ·exact .inl ⟨List.eq_nil_of_length_eq_zero h3, .inr ⟨_, _, _, rfl⟩⟩
 ·refine .inr ⟨b, 0, _, _, rfl, ⟨rfl, rfl, false, u8s l, ?_, by have := u8s_length l; omega, by rw [List.drop_zero, ← u8s_length l, List.take_length]⟩, by show b < η1.nx + 1; omega, by omega⟩
  show (if b = η1.nx then _ else _) = _
  rw [if_neg (by omega)]; exact h3
theorem bad_call (U : Usual nat) {η : HN} {rp : Nat} {l : List Nat} {bad : Bool} (R : RdrAt η rp l bad) : CallN Try.prog nat 56 [.ptr rp 0] η (.bool bad) η := by
 have : ∃ v η', CallN Try.prog nat 56 [.ptr rp 0] η v η' ∧ v = .bool bad ∧ η' = η := by
  refine call_of (PT := pl56) Try.func56 rfl (U 56 (by decide)) ok56 rfl ?_
  obtain ⟨y, r1, r2, r3⟩ := R
  simp -implicitDefEqProofs (disch := omega) only [go_sem, r1]
 obtain ⟨v, η', k, rfl, rfl⟩ := this
 exact k
theorem left_call (U : Usual nat) {η : HN} {rp : Nat} {l : List Nat} {bad : Bool} (R : RdrAt η rp l bad) (hl : l.length ≤ 9223372036854775807) : CallN Try.prog nat 58 [.ptr rp 0] η (.int .i64 l.length) η := by
 have : ∃ v η', CallN Try.prog nat 58 [.ptr rp 0] η v η' ∧ v = .int .i64 l.length ∧ η' = η := by
  refine call_of (PT := pl58) Try.func58 rfl (U 58 (by decide)) ok58 rfl ?_
  obtain ⟨y, r1, r2, r3⟩ := R
  have ly := fun e w => r3.len (e := e) (w := w) (η' := η) hl
  simp -implicitDefEqProofs (disch := omega) only [go_sem, r1, ly]
 obtain ⟨v, η', k, rfl, rfl⟩ := this
 exact k
end Go.Proofs.Ytjljolnhmmbkoaa
namespace Go.Plain
open Go.Eng
set_option autoImplicit false
def rdN : Nat → List Nat → Bool → List Nat × List Nat × Bool
 | 0, l, bad => ([], l, bad)
 | n + 1, l, bad => let g := rdG l bad; let h := rdN n g.2.1 g.2.2; (uz g.1 :: h.1, h.2)
theorem rdN_s : ∀ (n : Nat) (l : List Nat) (bad : Bool), rdN (n + 1) l bad = ((rdN n l bad).1 ++ [uz (rdG (rdN n l bad).2.1 (rdN n l bad).2.2).1], (rdG (rdN n l bad).2.1 (rdN n l bad).2.2).2)
 | 0, l, bad => rfl
 | n + 1, l, bad => by
  have := rdN_s n (rdG l bad).2.1 (rdG l bad).2.2
  rw [rdN, this]
  rfl
theorem rdN_len : ∀ (n : Nat) (l : List Nat) (bad : Bool), (rdN n l bad).1.length = n
 | 0, _, _ => rfl
 | n + 1, l, bad => by rw [rdN_s, List.length_append, rdN_len n l bad]; rfl
theorem rdN_lt : ∀ (n : Nat) (l : List Nat) (bad : Bool), ∀ x ∈ (rdN n l bad).1, x < 18446744073709551616
 | 0, _, _, x, hx => by cases hx
 | n + 1, l, bad, x, hx => by
  rw [rdN_s, List.mem_append] at hx
  rcases hx with hx | hx
  ·exact rdN_lt n l bad x hx
  ·rw [List.mem_singleton] at hx; rw [hx]; exact uz_lt (rdG_lt _ _)
theorem rdN_rest : ∀ (n : Nat) (l : List Nat) (bad : Bool), (∀ x ∈ (rdN n l bad).2.1, x ∈ l) ∧ (rdN n l bad).2.1.length ≤ l.length
 | 0, _, _ => ⟨fun x h => h, Nat.le_refl _⟩
 | n + 1, l, bad => by
  rw [rdN_s]
  obtain ⟨h1, h2⟩ := rdN_rest n l bad
  exact ⟨fun x hx => h1 x (rdG_rest _ _ x hx), Nat.le_trans (rdG_len _ _) h2⟩
noncomputable def loadF (mk l : List Nat) : Option (List Nat × Nat) :=
 let g := rdG l false
 let h := rdG g.2.1 g.2.2
 if h.2.2 = true ∨ 4611686018427387904 < g.1 ∨ h.1 ≠ mk.length then none else
  let v := rdN mk.length h.2.1 h.2.2
  if v.2.2 = true ∨ v.2.1 ≠ [] ∨ fitF mk v.1 = false then none else some (v.1, g.1)
end Go.Plain
namespace Go.Proofs.Ytjljolnhmmbkoaa
open Go.Eng Go.Plain
set_option autoImplicit false
set_option maxRecDepth 100000
variable {nat : ∀ [Deep], Nats}
set_option maxHeartbeats 2000000 in
theorem load_then (U : Usual nat) {η : HN} {lo hi mp mb ticks : Nat} {z : PV} {p : PD} {ms l : List Nat} {y : AV} {Q : AV → HN → Prop} (M : MachAt lo hi η mp mb z p ms ticks) (hf : Fine p) (hy : RdA 1 η y l.length (u8s l)) (hl : l.length ≤ 1099511627776) (hx : ∀ x ∈ l, x < 256)
  (hno : loadF p.mems l = none → ∀ η', MachAt lo hi η' mp mb z p ms ticks → ExtB η.nx η η' → Q (.int .i64 3) η')
  (hyes : ∀ ms' t, loadF p.mems l = some (ms', t) → ∀ mb' η', MachAt lo hi η' mp mb' z p ms' t → η.nx ≤ mb' → η.nx ≤ η'.nx → (∀ b, b < η.nx → b ≠ mp → η'.f b = η.f b) → Q (.int .i64 0) η') :
  ∃ v η', CallN Try.prog nat 26 [.ptr mp 0, y] η v η' ∧ Q v η' := by
 refine call_of (PT := pl26) Try.func26 rfl (U 26 (by decide)) ok26 rfl ?_
 have h1 := M.held.1
 have h2 := M.at_
 have h3 := M.mat
 obtain ⟨ym, c1, c2⟩ := M.cells
 simp -implicitDefEqProofs (disch := omega) only [go_sem]
 refine thenN_call (read_then U hy hl fun rp η1 R1 hrp E1 => ?_)
 have x1 := (E1.2 _ h2.2).trans c1
 simp -implicitDefEqProofs (disch := omega) only [go_sem]
 refine thenN_call (rdrU_then U R1 hx (by omega) fun η2 R2 n2 k2 => ?_)
 simp -implicitDefEqProofs (disch := omega) only [go_sem]
 have hx2 : ∀ x ∈ (rdG l false).2.1, x < 256 := fun x h => hx x (rdG_rest _ _ x h)
 have hl2 := rdG_len l false
 refine thenN_call (rdrU_then U R2 hx2 (by omega) fun η3 R3 n3 k3 => ?_)
 simp -implicitDefEqProofs (disch := omega) only [go_sem]
 refine thenN_call ⟨_, _, bad_call U R3, ?_⟩
 unfold loadF at hno hyes
 dsimp only at hno hyes
 have hv1 := rdG_lt l false
 have hv2 := rdG_lt (rdG l false).2.1 (rdG l false).2.2
 have hx3 : ∀ x ∈ (rdG (rdG l false).2.1 (rdG l false).2.2).2.1, x < 256 := fun x h => hx2 x (rdG_rest _ _ x h)
 have hl3 := rdG_len (rdG l false).2.1 (rdG l false).2.2
 generalize (rdG l false).1 = t at *
 generalize rdG (rdG l false).2.1 (rdG l false).2.2 = g at *
 obtain ⟨n, l3, bad3⟩ := g
 dsimp only at *
 have kk : ∀ b, b < η.nx → η3.f b = η.f b := fun b hb => (k3 b (by omega)).trans ((k2 b (by omega)).trans (E1.2 b hb))
 have nn : η1.nx = η3.nx := by omega
 have g1 := E1.1
 have x3 := (kk mp h2.2).trans c1
 have E3 : ExtB η.nx η η3 := ⟨by omega, kk⟩
 have l4 := rdI_len M.held.isP.mems hf.mems.1
 have b4 := hf.mems.1
 have M3 := M.keep E3.1 fun b hb _ => E3.2 b hb
 cases bad3 with
 | true =>
  simp -implicitDefEqProofs (disch := omega) only [go_sem]
  exact hno (if_pos (.inl rfl)) _ M3 E3
 | false =>
 by_cases ht : 4611686018427387904 < t
 ·simp -implicitDefEqProofs (disch := omega) only [go_sem]
  exact hno (if_pos (.inr (.inl ht))) _ M3 E3
 by_cases hn : ¬ n = p.mems.length
 ·simp -implicitDefEqProofs (disch := omega) only [go_sem, x3, l4]
  exact hno (if_pos (.inr (.inr hn))) _ M3 E3
 obtain rfl : n = p.mems.length := by omega
 rw [if_neg (by simp; omega)] at hno hyes
 simp -implicitDefEqProofs (disch := omega) only [go_sem, x3, l4]
 obtain ⟨I1, hI1⟩ : ∃ I : Nat → FN → HN → Prop, ∀ m φ ζ, I m φ ζ ↔ ∃ i x, m = p.mems.length - i ∧ i ≤ p.mems.length ∧ φ 0 = .ptr mp 0 ∧ φ 5 = .ptr rp 0 ∧ φ 6 = .int .u64 t ∧ φ 8 = x ∧ φ 32 = .int .u64 p.mems.length ∧ φ 33 = .int .u64 i ∧ RdrAt ζ rp (rdN i l3 false).2.1 (rdN i l3 false).2.2 ∧ OwnA 1 (rp + 1) ζ x i (i64s (rdN i l3 false).1) ∧ η3.nx ≤ ζ.nx ∧ (∀ b, b < rp → ζ.f b = η3.f b) := ⟨_, fun _ _ _ => Iff.rfl⟩
 have rpn : rp < η3.nx := by obtain ⟨_, _, q, _⟩ := R3; exact q
 refine wpN_loop I1 p.mems.length ((hI1 _ _ _).2 ⟨0, .nilslice, rfl, Nat.zero_le _, rfl, rfl, rfl, rfl, rfl, rfl, R3, .nil, Nat.le_refl _, fun _ _ => rfl⟩) ?_
 intro m φ ζ hI
 obtain ⟨i, x, hm, hi, p0, p5, p6, p8, p32, p33, R, O, nz, kz⟩ := (hI1 _ _ _).1 hI
 clear hI
 have hxi : ∀ x ∈ (rdN i l3 false).2.1, x < 256 := fun x h => hx3 x ((rdN_rest i l3 false).1 x h)
 have hli := (rdN_rest i l3 false).2
 by_cases hlt : i < p.mems.length
 ·simp -implicitDefEqProofs (disch := omega) only [go_sem, p0, p5, p6, p8, p32, p33]
  refine thenN_call (rdrI_then U R hxi (by omega) fun ζ4 R4 n4 k4 => ?_)
  simp -implicitDefEqProofs (disch := omega) only [go_sem, p0, p5, p6, p8, p32, p33]
  have O4 : OwnA 1 (rp + 1) ζ4 x i (i64s (rdN i l3 false).1) := OwnA.keep O (by omega) fun c hc _ => k4 c (by omega)
  refine thenN_app (base := rp + 1) (by decide) (O4.ext (.new (Nat.le_refl _))) .lit (by omega) (by show rp + 1 ≤ ζ4.nx + 1; omega) fun x5 ζ5 O5 E5 => ?_
  simp -implicitDefEqProofs (disch := omega) only [go_sem, p0, p5, p6, p8, p32, p33]
  have e5 := E5.1
  have e5 : ζ4.nx + 1 ≤ ζ5.nx := e5
  have kk5 : ∀ b, b ≤ rp → ζ5.f b = ζ4.f b := fun b hb => (E5.2 b (by omega)).trans (by show (if b = ζ4.nx then _ else _) = _; rw [if_neg (by omega)])
  refine ⟨p.mems.length - (i + 1), by omega, (hI1 _ _ _).2 ⟨i + 1, x5, rfl, by omega, p0, p5, p6, rfl, p32, rfl, ?_, ?_, by omega, fun b hb => (kk5 b (by omega)).trans ((k4 b (by omega)).trans (kz b hb))⟩⟩
  ·rw [rdN_s]; exact R4.keepB (by omega) kk5
  ·rw [rdN_s]
   have : i64s ((rdN i l3 false).1 ++ [uz (rdG (rdN i l3 false).2.1 (rdN i l3 false).2.2).1]) = i64s (rdN i l3 false).1 ++ [AV.int .i64 (uz (rdG (rdN i l3 false).2.1 (rdN i l3 false).2.2).1)] := by unfold i64s; simp
   rw [this]; exact O5
 ·obtain rfl : i = p.mems.length := by omega
  simp -implicitDefEqProofs (disch := omega) only [go_sem, p0, p5, p6, p8, p32, p33]
  refine thenN_call ⟨_, _, bad_call U R, ?_⟩
  have vl := rdN_len p.mems.length l3 false
  have vlt := rdN_lt p.mems.length l3 false
  generalize rdN p.mems.length l3 false = v at *
  obtain ⟨vs, rest, badv⟩ := v
  dsimp only at *
  have kz0 : ∀ b, b < η.nx → ζ.f b = η.f b := fun b hb => (kz b (by omega)).trans (kk b hb)
  have EZ : ExtB η.nx η ζ := ⟨by omega, kz0⟩
  have MZ := M.keep EZ.1 fun b hb _ => EZ.2 b hb
  have xz := (kz0 mp h2.2).trans c1
  cases badv with
  | true =>
   simp -implicitDefEqProofs (disch := omega) only [go_sem]
   exact hno (if_pos (.inl rfl)) _ MZ EZ
  | false =>
  have hrl : rest.length ≤ 9223372036854775807 := by omega
  simp -implicitDefEqProofs (disch := omega) only [go_sem, p5]
  refine thenN_call ⟨_, _, left_call U R hrl, ?_⟩
  by_cases hr0 : 0 < rest.length
  ·simp -implicitDefEqProofs (disch := omega) only [go_sem]
   exact hno (if_pos (.inr (.inl (by intro h; rw [h] at hr0; simp at hr0)))) _ MZ EZ
  obtain rfl : rest = [] := List.eq_nil_of_length_eq_zero (by omega)
  simp -implicitDefEqProofs (disch := omega) only [go_sem, p0, p8, xz]
  have Ord : RdI .i64 ζ x vs := RdA.toI (by have := O.rd; rw [← vl] at this; exact this)
  refine thenN_call ⟨_, _, fit_call U ζ z.z4 x p.mems vs MZ.held.isP.mems Ord hf.mems.1 (by omega), ?_⟩
  cases hfit : fitF p.mems vs with
  | false =>
   simp -implicitDefEqProofs (disch := omega) only [go_sem, Bool.not_false]
   exact hno (if_pos (.inr (.inr hfit))) _ MZ EZ
  | true =>
  rw [if_neg (by rw [hfit]; simp)] at hyes
  have cx := OwnA.cells1 O
  simp -implicitDefEqProofs (disch := omega) only [go_sem, Bool.not_true, p0, p6, p8, xz, cx]
  have rpz : rp < ζ.nx := by omega
  have pf : ∀ b x y, b ≠ mp → ((ζ.put mp x).put mp y).f b = ζ.f b := fun b x y hb => by show (if b = mp then _ else if b = mp then _ else _) = _; rw [if_neg hb, if_neg hb]
  have po : ∀ x y, ((ζ.put mp x).put mp y).f mp = y := fun x y => by show (if mp = mp then _ else _) = _; rw [if_pos rfl]
  have fin : ∀ mb', η.nx ≤ mb' → mb' < ζ.nx → (∀ H : HN, (∀ b, b ≠ mp → H.f b = ζ.f b) → MemAt mb' H x vs) → Q (.int .i64 0) ((ζ.put mp (.live false [z.z1, z.z2, z.z3, z.z4, z.z5, z.z6, ym, .int .i64 t])).put mp (.live false [z.z1, z.z2, z.z3, z.z4, z.z5, z.z6, x, .int .i64 t])) := fun mb' h5 h6 h7 =>
   hyes vs t rfl mb' _ ⟨MZ.held.of (Nat.le_refl _) fun b g1 g2 => pf b _ _ (by omega), ⟨h2.1, by show mp < ζ.nx; omega⟩, ⟨by omega, h6, by omega⟩, ⟨x, po _ _, h7 _ fun b hb => pf b _ _ hb⟩, vl, vlt, hv1⟩ h5 (by show η.nx ≤ ζ.nx; omega) fun b g1 g2 => (pf b _ _ g2).trans (kz0 b g1)
  obtain ⟨o0, ⟨rfl, o1⟩ | ⟨b, o1, o2, ⟨rfl, o3, _⟩ | ⟨rfl, o3⟩⟩⟩ := O
  ·exact fin rp hrp rpz fun H _ => .inl ⟨.inl rfl, List.eq_nil_of_length_eq_zero (by omega)⟩
  ·exact fin rp hrp rpz fun H _ => .inl ⟨.inr ⟨_, _, _, rfl⟩, List.eq_nil_of_length_eq_zero (by omega)⟩
  ·exact fin b (by omega) o2 fun H hH => .inr ⟨_, by rw [vl], (hH b (by omega)).trans o3⟩
end Go.Proofs.Ytjljolnhmmbkoaa
namespace Go.Plain
open Go.Eng
set_option autoImplicit false
theorem rdN_at : ∀ (n : Nat) (l : List Nat) (bad : Bool) (i : Nat), i < n → (rdN n l bad).1.getD i 0 = uz (rdG (rdN i l bad).2.1 (rdN i l bad).2.2).1
 | 0, _, _, _, h => absurd h (Nat.not_lt_zero _)
 | n + 1, l, bad, i, h => by
  rw [rdN_s]
  dsimp only
  have hl := rdN_len n l bad
  by_cases hi : i < n
  ·rw [List.getD_eq_getElem?_getD, List.getElem?_append_left (by omega), ← List.getD_eq_getElem?_getD]
   exact rdN_at n l bad i hi
  ·obtain rfl : i = n := by omega
   rw [List.getD_eq_getElem?_getD, List.getElem?_append_right (by omega), hl, Nat.sub_self]; rfl
def okK (ks : List Nat) (v i : Nat) : Bool := !(decide (ks.getD i 0 = 1) && (!decide (v = 0) && !decide (v = 1)))
theorem fit_at {ks l : List Nat} (h : fitF ks l = true) {i : Nat} (hi : i < ks.length) : okK ks (l.getD i 0) i = true := by
 unfold fitF at h
 have := (List.all_eq_true.1 (Bool.and_eq_true_iff.1 h).2) i (List.mem_range.2 hi)
 exact this
theorem fit_all {ks l : List Nat} (hl : ks.length = l.length) (h : ∀ i, i < ks.length → okK ks (l.getD i 0) i = true) : fitF ks l = true := by
 unfold fitF
 rw [decide_eq_true hl, Bool.true_and, List.all_eq_true]
 intro i hi
 exact h i (List.mem_range.1 hi)
end Go.Plain
namespace Go.Proofs.Ytjljolnhmmbkoaa
open Go.Eng Go.Plain
set_option autoImplicit false
set_option maxRecDepth 100000
variable {nat : ∀ [Deep], Nats}
theorem set_fill {l : List Nat} {i n x : Nat} (hl : l.length = i) (h : i < n) : (i64s (l ++ List.replicate (n - i) 0)).set i (.int .i64 x) = i64s ((l ++ [x]) ++ List.replicate (n - (i + 1)) 0) := by
 rw [i64s_set]
 congr 1
 rw [List.set_append_right _ _ (by omega), hl, Nat.sub_self, show n - i = n - (i + 1) + 1 by omega, List.replicate_succ, List.set_cons_zero, List.append_assoc]; rfl
set_option maxHeartbeats 2000000 in
theorem refload_then (U : Usual nat) {η : HN} {lo hi mp mb ticks : Nat} {z : PV} {p : PD} {ms l : List Nat} {y : AV} {Q : AV → HN → Prop} (M : MachAt lo hi η mp mb z p ms ticks) (hf : Fine p) (hy : RdA 1 η y l.length (u8s l)) (hl : l.length ≤ 1099511627776) (hx : ∀ x ∈ l, x < 256)
  (hno : loadF p.mems l = none → ∀ η', MachAt lo hi η' mp mb z p ms ticks → ExtB η.nx η η' → Q (.bool false) η')
  (hyes : ∀ ms' t, loadF p.mems l = some (ms', t) → ∀ mb' η', MachAt lo hi η' mp mb' z p ms' t → η.nx ≤ mb' → η.nx ≤ η'.nx → (∀ b, b < η.nx → b ≠ mp → η'.f b = η.f b) → Q (.bool true) η') :
  ∃ v η', CallN Try.prog nat 38 [.ptr mp 0, y] η v η' ∧ Q v η' := by
 refine call_of (PT := pl38) Try.func38 rfl (U 38 (by decide)) ok38 rfl ?_
 have h1 := M.held.1
 have h2 := M.at_
 have h3 := M.mat
 obtain ⟨ym, c1, c2⟩ := M.cells
 simp -implicitDefEqProofs (disch := omega) only [go_sem]
 have E0 : ExtB η.nx η (η.new (.live false [])) := .new (Nat.le_refl _)
 refine thenN_app (base := η.nx) (by decide) .new0 (hy.ext E0) (by omega) E0.1 fun x0 η0 o0 E00 => ?_
 rw [List.nil_append, Nat.zero_add] at o0
 have cc1 := OwnA.cells1 o0
 simp -implicitDefEqProofs (disch := omega) only [go_sem, cc1]
 have n0 := E00.1
 have n0 : η.nx + 1 ≤ η0.nx := n0
 obtain ⟨rp, hrp0⟩ : ∃ rp, rp = η0.nx := ⟨_, rfl⟩
 have hrp : η.nx ≤ rp := by omega
 have E1 : ExtB η.nx η (η0.new (.live false [x0, .bool false])) := (E0.trans E00).trans (.new (by omega))
 have R1 : RdrAt (η0.new (.live false [x0, .bool false])) rp l false := by
  refine ⟨x0, by rw [hrp0]; show (if η0.nx = η0.nx then _ else _) = _; rw [if_pos rfl], by rw [hrp0]; exact Nat.lt_succ_self _, ?_⟩
  obtain ⟨h0, ⟨rfl, h1⟩ | ⟨b, h1, h2, ⟨rfl, h3, _⟩ | ⟨rfl, h3⟩⟩⟩ := o0
  ·exact .inl ⟨List.eq_nil_of_length_eq_zero h1, .inl rfl⟩
  ·exact .inl ⟨List.eq_nil_of_length_eq_zero h3, .inr ⟨_, _, _, rfl⟩⟩
  ·refine .inr ⟨b, 0, _, _, rfl, ⟨rfl, rfl, false, u8s l, ?_, by have := u8s_length l; omega, by rw [List.drop_zero, ← u8s_length l, List.take_length]⟩, by show b < η0.nx + 1; omega, by omega⟩
   show (if b = η0.nx then _ else _) = _
   rw [if_neg (by omega)]; exact h3
 have nn1 : (η0.new (.live false [x0, .bool false])).nx = rp + 1 := by rw [hrp0]; rfl
 rw [← hrp0]
 generalize η0.new (.live false [x0, .bool false]) = η1 at *
 refine thenN_call (refU_then U R1 hx (by omega) fun η2 R2 n2 k2 => ?_)
 simp -implicitDefEqProofs (disch := omega) only [go_sem]
 have hx2 : ∀ x ∈ (rdG l false).2.1, x < 256 := fun x h => hx x (rdG_rest _ _ x h)
 have hl2 := rdG_len l false
 refine thenN_call (refU_then U R2 hx2 (by omega) fun η3 R3 n3 k3 => ?_)
 unfold loadF at hno hyes
 dsimp only at hno hyes
 have hv1 := rdG_lt l false
 have hv2 := rdG_lt (rdG l false).2.1 (rdG l false).2.2
 have hx3 : ∀ x ∈ (rdG (rdG l false).2.1 (rdG l false).2.2).2.1, x < 256 := fun x h => hx2 x (rdG_rest _ _ x h)
 have hl3 := rdG_len (rdG l false).2.1 (rdG l false).2.2
 generalize (rdG l false).1 = t at *
 generalize rdG (rdG l false).2.1 (rdG l false).2.2 = g at *
 obtain ⟨n, l3, bad3⟩ := g
 dsimp only at *
 have kk : ∀ b, b < η.nx → η3.f b = η.f b := fun b hb => (k3 b (by omega)).trans ((k2 b (by omega)).trans (E1.2 b hb))
 have nn : η1.nx = η3.nx := by omega
 have g1 := E1.1
 have x3 := (kk mp h2.2).trans c1
 have E3 : ExtB η.nx η η3 := ⟨by omega, kk⟩
 have lm := rdI_len (MemAt.rd c2 h3.2.1) (by have := M.len; have := hf.mems.1; omega)
 rw [M.len] at lm
 have b4 := hf.mems.1
 have M3 := M.keep E3.1 fun b hb _ => E3.2 b hb
 have R3' := R3
 obtain ⟨yr, r1, r2, r3⟩ := R3'
 cases bad3 with
 | true =>
  simp -implicitDefEqProofs (disch := omega) only [go_sem, r1]
  exact hno (if_pos (.inl rfl)) _ M3 E3
 | false =>
 by_cases ht : 4611686018427387904 < t
 ·simp -implicitDefEqProofs (disch := omega) only [go_sem, r1]
  exact hno (if_pos (.inr (.inl ht))) _ M3 E3
 by_cases hn : ¬ n = p.mems.length
 ·simp -implicitDefEqProofs (disch := omega) only [go_sem, r1, x3, lm]
  exact hno (if_pos (.inr (.inr hn))) _ M3 E3
 obtain rfl : n = p.mems.length := by omega
 rw [if_neg (by simp; omega)] at hno hyes
 have hc : ¬8 = 0 ∧ p.mems.length * 8 ≤ 140737488355328 := ⟨by decide, by omega⟩
 simp -implicitDefEqProofs (disch := omega) only [go_sem, r1, x3, lm, if_pos hc]
 have rpn : rp < η3.nx := r2
 obtain ⟨VB, hVB⟩ : ∃ VB, VB = η3.nx := ⟨_, rfl⟩
 rw [← hVB]
 obtain ⟨I1, hI1⟩ : ∃ I : Nat → FN → HN → Prop, ∀ m φ ζ, I m φ ζ ↔ ∃ i, m = p.mems.length - i ∧ i ≤ p.mems.length ∧ φ 0 = .ptr mp 0 ∧ φ 5 = .ptr rp 0 ∧ φ 6 = .int .u64 t ∧ φ 8 = .slice VB 0 p.mems.length (.kn p.mems.length) ∧ φ 9 = .int .i64 i ∧ RdrAt ζ rp (rdN i l3 false).2.1 (rdN i l3 false).2.2 ∧ ζ.f VB = .live false (i64s ((rdN i l3 false).1 ++ List.replicate (p.mems.length - i) 0)) ∧ VB < ζ.nx ∧ (∀ b, b < rp → ζ.f b = η3.f b) ∧ (∀ j, j < i → okK p.mems ((rdN i l3 false).1.getD j 0) j = true) := ⟨_, fun _ _ _ => Iff.rfl⟩
 refine wpN_loop I1 p.mems.length ((hI1 _ _ _).2 ⟨0, rfl, Nat.zero_le _, rfl, rfl, rfl, rfl, rfl, R3.keepB (Nat.le_succ _) fun b hb => by show (if b = η3.nx then _ else _) = _; rw [if_neg (by omega)], ?_, by rw [hVB]; exact Nat.lt_succ_self _, fun b hb => by show (if b = η3.nx then _ else _) = _; rw [if_neg (by omega)], fun j hj => absurd hj (Nat.not_lt_zero j)⟩) ?_
 ·show (if VB = η3.nx then _ else _) = _
  rw [if_pos hVB]; unfold i64s rdN; rw [List.nil_append, List.map_replicate]; rfl
 intro m φ ζ hI
 obtain ⟨i, hm, hi, p0, p5, p6, p8, p9, R, fv, vn, kz, hok⟩ := (hI1 _ _ _).1 hI
 clear hI
 have hxi : ∀ x ∈ (rdN i l3 false).2.1, x < 256 := fun x h => hx3 x ((rdN_rest i l3 false).1 x h)
 have hli := (rdN_rest i l3 false).2
 have kz0 : ∀ b, b < η.nx → ζ.f b = η.f b := fun b hb => (kz b (by omega)).trans (kk b hb)
 by_cases hlt : i < p.mems.length
 ·simp -implicitDefEqProofs (disch := omega) only [go_sem, p0, p5, p6, p8, p9]
  refine thenN_call (refI_then U R hxi (by omega) fun ζ4 R4 n4 k4 => ?_)
  have fv4 := (k4 VB (by omega)).trans fv
  have vl := rdN_len i l3 false
  have hvl : (i64s ((rdN i l3 false).1 ++ List.replicate (p.mems.length - i) 0)).length = p.mems.length := by rw [i64s_len, List.length_append, List.length_replicate]; omega
  obtain ⟨bq, offq, capq, roq, rowq, zq, hbq, hbqn, hrq⟩ := M.held.isP.mems.at hlt
  have x4 := (k4 mp (by omega)).trans ((kz0 mp h2.2).trans c1)
  rw [zq] at x4
  have hbq4 := (k4 bq (by omega)).trans ((kz0 bq hbqn).trans hbq)
  have sf := set_fill (x := uz (rdG (rdN i l3 false).2.1 (rdN i l3 false).2.2).1) vl hlt
  have hs := rdN_s i l3 false
  have hgl : (i64s (((rdN i l3 false).1 ++ [uz (rdG (rdN i l3 false).2.1 (rdN i l3 false).2.2).1]) ++ List.replicate (p.mems.length - (i + 1)) 0))[i]? = some (.int .i64 (uz (rdG (rdN i l3 false).2.1 (rdN i l3 false).2.2).1)) := by
   unfold i64s
   rw [List.getElem?_map, List.append_assoc, List.getElem?_append_right (by omega), vl, Nat.sub_self]; rfl
  have nx : ∀ (c : Bool), okK p.mems (uz (rdG (rdN i l3 false).2.1 (rdN i l3 false).2.2).1) i = c → c = true → ∀ φ', φ' 0 = .ptr mp 0 → φ' 5 = .ptr rp 0 → φ' 6 = .int .u64 t → φ' 8 = .slice VB 0 p.mems.length (.kn p.mems.length) → φ' 9 = .int .i64 (i + 1) → ∃ m', m' < m ∧ I1 m' φ' (ζ4.put VB (.live false (i64s (((rdN i l3 false).1 ++ [uz (rdG (rdN i l3 false).2.1 (rdN i l3 false).2.2).1]) ++ List.replicate (p.mems.length - (i + 1)) 0)))) := fun c hc1 hc2 φ' z0 z5 z6 z8 z9 => by
   refine ⟨p.mems.length - (i + 1), by omega, (hI1 _ _ _).2 ⟨i + 1, rfl, by omega, z0, z5, z6, z8, z9, ?_, ?_, by show VB < ζ4.nx; omega, fun b hb => ?_, fun j hj => ?_⟩⟩
   ·rw [hs]
    exact R4.keepB (Nat.le_refl _) fun b hb => by show (if b = VB then _ else _) = _; rw [if_neg (by omega)]
   ·rw [hs]; show (if VB = VB then _ else _) = _; rw [if_pos rfl]
   ·show (if b = VB then _ else _) = _
    rw [if_neg (by omega)]
    exact (k4 b (by omega)).trans (kz b hb)
   ·rw [hs]
    dsimp only
    by_cases hji : j < i
    ·rw [List.getD_eq_getElem?_getD, List.getElem?_append_left (by omega), ← List.getD_eq_getElem?_getD]; exact hok j hji
    ·obtain rfl : j = i := by omega
     rw [List.getD_eq_getElem?_getD, List.getElem?_append_right (by omega), vl, Nat.sub_self]
     exact hc1.trans hc2
  have stop : okK p.mems (uz (rdG (rdN i l3 false).2.1 (rdN i l3 false).2.2).1) i = false → Q (.bool false) (ζ4.put VB (.live false (i64s (((rdN i l3 false).1 ++ [uz (rdG (rdN i l3 false).2.1 (rdN i l3 false).2.2).1]) ++ List.replicate (p.mems.length - (i + 1)) 0)))) := fun hk => by
   have E5 : ExtB η.nx η (ζ4.put VB (.live false (i64s (((rdN i l3 false).1 ++ [uz (rdG (rdN i l3 false).2.1 (rdN i l3 false).2.2).1]) ++ List.replicate (p.mems.length - (i + 1)) 0)))) := ⟨by show η.nx ≤ ζ4.nx; omega, fun b hb => by show (if b = VB then _ else _) = _; rw [if_neg (by omega)]; exact (k4 b (by omega)).trans (kz0 b hb)⟩
   refine hno (if_pos (.inr (.inr ?_))) _ (M.keep E5.1 fun b hb _ => E5.2 b hb) E5
   cases hq : fitF p.mems (rdN p.mems.length l3 false).1 with
   | false => rfl
   | true =>
    have := fit_at hq hlt
    rw [rdN_at _ _ _ _ hlt, hk] at this
    cases this
  generalize uz (rdG (rdN i l3 false).2.1 (rdN i l3 false).2.2).1 = v at *
  unfold okK at nx stop
  rw [getD_get _ _ hlt] at nx stop
  by_cases k1 : p.mems[i] = 1
  ·rw [k1] at hrq
   by_cases v0 : v = 0
   ·subst v0
    simp -implicitDefEqProofs (disch := omega) only [go_sem, p0, p5, p6, p8, p9, fv4, hvl, sf, x4, hbq4, hrq, hgl]
    exact nx true (by simp) rfl _ p0 p5 p6 p8 rfl
   by_cases v1 : v = 1
   ·subst v1
    simp -implicitDefEqProofs (disch := omega) only [go_sem, p0, p5, p6, p8, p9, fv4, hvl, sf, x4, hbq4, hrq, hgl]
    exact nx true (by simp) rfl _ p0 p5 p6 p8 rfl
   ·simp -implicitDefEqProofs (disch := omega) only [go_sem, p0, p5, p6, p8, p9, fv4, hvl, sf, x4, hbq4, hrq, hgl]
    exact stop (by simp [k1, v0, v1])
  ·simp -implicitDefEqProofs (disch := omega) only [go_sem, p0, p5, p6, p8, p9, fv4, hvl, sf, x4, hbq4, hrq, hgl]
   exact nx true (by simp [k1]) rfl _ p0 p5 p6 p8 rfl
 ·obtain rfl : i = p.mems.length := by omega
  have vl := rdN_len p.mems.length l3 false
  have vlt := rdN_lt p.mems.length l3 false
  have hfit : fitF p.mems (rdN p.mems.length l3 false).1 = true := fit_all vl.symm hok
  rw [Nat.sub_self, List.replicate_zero, List.append_nil] at fv
  generalize rdN p.mems.length l3 false = v at *
  obtain ⟨vs, rest, badv⟩ := v
  dsimp only at *
  have EZ : ExtB η.nx η ζ := ⟨by omega, kz0⟩
  have MZ := M.keep EZ.1 fun b hb _ => EZ.2 b hb
  have xz := (kz0 mp h2.2).trans c1
  obtain ⟨yz, q1, q2, q3⟩ := R
  have ly := fun e w => q3.len (e := e) (w := w) (η' := ζ) (by omega)
  cases badv with
  | true =>
   simp -implicitDefEqProofs (disch := omega) only [go_sem, p0, p5, p6, p8, p9, q1]
   exact hno (if_pos (.inl rfl)) _ MZ EZ
  | false =>
  by_cases hr0 : 0 < rest.length
  ·simp -implicitDefEqProofs (disch := omega) only [go_sem, p0, p5, p6, p8, p9, q1, ly]
   exact hno (if_pos (.inr (.inl (by intro h; rw [h] at hr0; simp at hr0)))) _ MZ EZ
  obtain rfl : rest = [] := List.eq_nil_of_length_eq_zero (by omega)
  rw [if_neg (by rw [hfit]; simp)] at hyes
  simp -implicitDefEqProofs (disch := omega) only [go_sem, p0, p5, p6, p8, p9, q1, ly, xz]
  have pf : ∀ b x y, b ≠ mp → ((ζ.put mp x).put mp y).f b = ζ.f b := fun b x y hb => by show (if b = mp then _ else if b = mp then _ else _) = _; rw [if_neg hb, if_neg hb]
  have po : ∀ x y, ((ζ.put mp x).put mp y).f mp = y := fun x y => by show (if mp = mp then _ else _) = _; rw [if_pos rfl]
  exact hyes vs t rfl VB _ ⟨MZ.held.of (Nat.le_refl _) fun b g1 g2 => pf b _ _ (by omega), ⟨h2.1, by show mp < ζ.nx; omega⟩, ⟨by omega, vn, by omega⟩, ⟨_, po _ _, .inr ⟨_, by rw [vl], (pf VB _ _ (by omega)).trans fv⟩⟩, vl, vlt, hv1⟩ (by omega) (by show η.nx ≤ ζ.nx; omega) fun b g1 g2 => (pf b _ _ g2).trans (kz0 b g1)
end Go.Proofs.Ytjljolnhmmbkoaa
