/- What is proved: what the leaves of valid.Check do. what sets and targets do. what sets do, and what an instruction reads. what an instruction reads. what an instruction writes. what IndexFunc and ContainsFunc do over ints, the predicate told. what a program's parts are asked. whether what an instruction names is there. what the closure of an instruction's kinds does. Conditions: as each theorem says. -/
import Derived.Test.YtjljolnhmmbkoaaFacts
import Derived.Test.YtjljolnhmmbkoaaPlain
set_option linter.unusedVariables false
set_option linter.unusedSimpArgs false
set_option linter.unusedSectionVars false
namespace Go.Proofs.Ytjljolnhmmbkoaa
open Go.Eng
set_option autoImplicit false
set_option maxRecDepth 100000
variable {nat : ∀ [Deep], Nats}
theorem ltN_neg {n : Nat} (h : 9223372036854775807 < n) : ltN .i64 n 0 = true := by
 have h1 : nneg .i64 n = false := by
  cases hq : nneg .i64 n with
  | false => rfl
  | true => exact absurd (ble_true.1 hq) (by show ¬ Nat.succ n ≤ 9223372036854775808; omega)
 have h2 : nneg .i64 0 = true := rfl
 unfold ltN
 rw [h1, h2]; rfl
theorem operands_spec (h : ∀ [Deep], nat 79 = none) (η : HN) (op : Nat) (hop : op < 18446744073709551616) :
  ∃ v η', CallN Try.prog nat 79 [.int .i64 op] η v η' ∧ v = .int .i64 (if op < 20 then (if 8 ≤ op ∧ op ≤ 18 then 3 else 2) else if op = 20 then 1 else 0) ∧ η' = η := by
 refine call_of (PT := pl79) Try.func79 rfl h ok79 rfl ?_
 by_cases h0 : 9223372036854775807 < op
 ·have hlt := ltN_neg h0
  rw [if_neg (by omega), if_neg (by omega)]
  simp -implicitDefEqProofs (disch := omega) only [go_sem, hlt]
 by_cases h1 : 20 < op
 ·rw [if_neg (by omega), if_neg (by omega)]
  simp -implicitDefEqProofs (disch := omega) only [go_sem]
 by_cases h2 : op = 20
 ·subst h2
  simp -implicitDefEqProofs (disch := omega) only [go_sem]
 rw [if_pos (by omega)]
 by_cases h3 : op < 8
 ·rw [if_neg (by omega)]
  simp -implicitDefEqProofs (disch := omega) only [go_sem]
 by_cases h4 : 18 < op
 ·rw [if_neg (by omega)]
  simp -implicitDefEqProofs (disch := omega) only [go_sem]
 rw [if_pos (by omega)]
 simp -implicitDefEqProofs (disch := omega) only [go_sem]
theorem odd_spec (h : ∀ [Deep], nat 74 = none) (η : HN) (k : Nat) :
  ∃ v η', CallN Try.prog nat 74 [.int .i64 k] η v η' ∧ v = .bool (decide (k ≠ 1 ∧ k ≠ 2)) ∧ η' = η := by
 refine call_of (PT := pl74) Try.func74 rfl h ok74 rfl ?_
 by_cases h1 : k = 1
 ·subst h1
  simp -implicitDefEqProofs (disch := omega) only [go_sem]
 by_cases h2 : k = 2
 ·subst h2
  simp -implicitDefEqProofs (disch := omega) only [go_sem]
 rw [decide_eq_true ⟨h1, h2⟩]
 simp -implicitDefEqProofs (disch := omega) only [go_sem]
def within (n m : Nat) : Bool := decide (n < m)
theorem within_spec (h : ∀ [Deep], nat 76 = none) (η : HN) (y : AV) (n m : Nat) (hn : n < 18446744073709551616) (hm : m ≤ 9223372036854775807) (hy : ∀ e y' η', lenN (.slice e 1 y') y η' = .ok (.int .i64 m) η') :
  ∃ v η', CallN Try.prog nat 76 [y, .int .i64 n] η v η' ∧ v = .bool (within n m) ∧ η' = η := by
 refine call_of (PT := pl76) Try.func76 rfl h ok76 rfl ?_
 unfold within
 by_cases h0 : 9223372036854775807 < n
 ·have hlt := ltN_neg h0
  rw [decide_eq_false (by omega)]
  simp -implicitDefEqProofs (disch := omega) only [go_sem, hlt, hy]
 by_cases h1 : n < m
 ·rw [decide_eq_true h1]
  simp -implicitDefEqProofs (disch := omega) only [go_sem, hy]
 ·rw [decide_eq_false h1]
  simp -implicitDefEqProofs (disch := omega) only [go_sem, hy]
theorem within2_spec (h : ∀ [Deep], nat 77 = none) (η : HN) (y : AV) (n m : Nat) (hn : n < 18446744073709551616) (hm : m ≤ 9223372036854775807) (hy : ∀ e y' η', lenN (.slice e 1 y') y η' = .ok (.int .i64 m) η') :
  ∃ v η', CallN Try.prog nat 77 [y, .int .i64 n] η v η' ∧ v = .bool (within n m) ∧ η' = η := by
 refine call_of (PT := pl77) Try.func77 rfl h ok77 rfl ?_
 unfold within
 by_cases h0 : 9223372036854775807 < n
 ·have hlt := ltN_neg h0
  rw [decide_eq_false (by omega)]
  simp -implicitDefEqProofs (disch := omega) only [go_sem, hlt, hy]
 by_cases h1 : n < m
 ·rw [decide_eq_true h1]
  simp -implicitDefEqProofs (disch := omega) only [go_sem, hy]
 ·rw [decide_eq_false h1]
  simp -implicitDefEqProofs (disch := omega) only [go_sem, hy]
end Go.Proofs.Ytjljolnhmmbkoaa
namespace Go.Proofs.Ytjljolnhmmbkoaa
open Go.Eng
set_option autoImplicit false
set_option maxRecDepth 100000
variable {nat : ∀ [Deep], Nats}
theorem ltN_negr {a n : Nat} (ha : a ≤ 9223372036854775807) (h : 9223372036854775807 < n) : ltN .i64 a n = false := by
 have h1 : nneg .i64 n = false := by
  cases hq : nneg .i64 n with
  | false => rfl
  | true => exact absurd (ble_true.1 hq) (by show ¬ Nat.succ n ≤ 9223372036854775808; omega)
 have h2 : nneg .i64 a = true := ble_true.2 (show Nat.succ a ≤ 9223372036854775808 by omega)
 unfold ltN
 rw [h1, h2]; rfl
theorem shr_u64 {x k : Nat} (h : x < 18446744073709551616) : shrN .u64 x k = x / 2 ^ k := by
 have h1 : nneg .u64 x = true := ble_true.2 (show Nat.succ x ≤ 18446744073709551616 from h)
 unfold shrN
 rw [h1]; rfl
theorem target_spec (h : ∀ [Deep], nat 78 = none) (η : HN) (c : Nat) (ro : Bool) (z1 z2 z3 z4 z5 z6 : AV) (pc to m : Nat) (hc : η.f c = .live ro [z1, z2, z3, z4, z5, z6]) (hpc : pc ≤ 9223372036854775807) (hto : to < 18446744073709551616) (hm : m ≤ 9223372036854775807) (hy : ∀ e y' η', lenN (.slice e 4 y') z6 η' = .ok (.int .i64 m) η') :
  ∃ v η', CallN Try.prog nat 78 [.ptr c 0, .int .i64 pc, .int .i64 to] η v η' ∧ v = .bool (decide (pc < to ∧ to ≤ m)) ∧ η' = η := by
 refine call_of (PT := pl78) Try.func78 rfl h ok78 rfl ?_
 by_cases h0 : 9223372036854775807 < to
 ·have hlt := ltN_negr hpc h0
  rw [decide_eq_false (by omega)]
  simp -implicitDefEqProofs (disch := omega) only [go_sem, hc, hy, hlt]
 by_cases h1 : pc < to
 ·by_cases h2 : to ≤ m
  ·rw [decide_eq_true ⟨h1, h2⟩]
   simp -implicitDefEqProofs (disch := omega) only [go_sem, hc, hy]
  ·rw [decide_eq_false (by omega)]
   simp -implicitDefEqProofs (disch := omega) only [go_sem, hc, hy]
 ·rw [decide_eq_false (by omega)]
  simp -implicitDefEqProofs (disch := omega) only [go_sem, hc, hy]
theorem has_spec (h : ∀ [Deep], nat 45 = none) (η : HN) (y : AV) (l : List Nat) (n : Nat) (hy : RdI .u64 η y l) (hn : n / 64 < l.length) (hl : l.length ≤ 1099511627776) (hx : ∀ x ∈ l, x < 18446744073709551616) :
  ∃ v η', CallN Try.prog nat 45 [y, .int .i64 n] η v η' ∧ v = .bool (decide (l.getD (n / 64) 0 / 2 ^ (n % 64) % 2 = 1)) ∧ η' = η := by
 refine call_of (PT := pl45) Try.func45 rfl h ok45 rfl ?_
 obtain ⟨b, off, cap, ro, row, rfl, hb, _, hr⟩ := hy.at hn
 simp -implicitDefEqProofs (disch := omega) only [go_sem, hb, hr]
 rw [shr_u64 (hx _ (List.getElem_mem hn)), Nat.and_one_is_mod, List.getD_eq_getElem?_getD, List.getElem?_eq_getElem hn]; rfl
end Go.Proofs.Ytjljolnhmmbkoaa
namespace Go.Proofs.Ytjljolnhmmbkoaa
open Go.Eng
set_option autoImplicit false
set_option maxRecDepth 100000
variable {nat : ∀ [Deep], Nats}
theorem shl1 {k : Nat} (h : k < 64) : shlN .u64 1 k = 2 ^ k := by
 have h2 : 2 ^ k < 18446744073709551616 := Nat.pow_lt_pow_right (by decide) h
 show (1 * 2 ^ k) % 18446744073709551616 = _
 rw [Nat.one_mul, Nat.mod_eq_of_lt h2]
theorem room_spec (h : ∀ [Deep], nat 84 = none) (η : HN) (n : Nat) (hn : n ≤ 1000000) :
  ∃ v η', CallN Try.prog nat 84 [.int .i64 n] η v η' ∧ v = .slice η.nx 0 ((n + 63) / 64) (.kn ((n + 63) / 64)) ∧ η' = η.new (.live false (List.replicate ((n + 63) / 64) (.int .u64 0))) := by
 refine call_of (PT := pl84) Try.func84 rfl h ok84 rfl ?_
 have hc : ¬ 8 = 0 ∧ (n + 63) / 64 * 8 ≤ 140737488355328 := ⟨by decide, by omega⟩
 simp -implicitDefEqProofs (disch := omega) only [go_sem, if_pos hc]
theorem add_spec (h : ∀ [Deep], nat 103 = none) (η : HN) (b off : Nat) (cap : Cp) (m : Nat) (row : List AV) (x n : Nat) (hb : η.f b = .live false row) (hn : n / 64 < m) (hr : row[off + n / 64]? = some (.int .u64 x)) (hm : m ≤ 1099511627776) :
  ∃ v η', CallN Try.prog nat 103 [.slice b off m cap, .int .i64 n] η v η' ∧ η' = η.put b (.live false (row.set (off + n / 64) (.int .u64 (x ||| 2 ^ (n % 64))))) := by
 refine call_of (PT := pl103) Try.func103 rfl h ok103 rfl ?_
 have hlt := (List.getElem?_eq_some_iff.1 hr).1
 simp -implicitDefEqProofs (disch := omega) only [go_sem, hb, hr]
 rw [shl1 (by omega)]
end Go.Proofs.Ytjljolnhmmbkoaa
namespace Go.Proofs.Ytjljolnhmmbkoaa
open Go.Eng
set_option autoImplicit false
set_option maxRecDepth 100000
variable {nat : ∀ [Deep], Nats}
def readsL (op b c : Nat) : List Nat := if op = 0 ∨ op = 2 ∨ op = 4 ∨ op = 20 then [] else if 8 ≤ op ∧ op ≤ 18 then [b, c] else [b]
theorem reads_spec (h : ∀ [Deep], nat 85 = none) (h79 : ∀ [Deep], nat 79 = none) (η : HN) (op a b c : Nat) (hop : op ≤ 20) :
  ∃ v η', CallN Try.prog nat 85 [.agg [.int .i64 op, .int .i64 a, .int .i64 b, .int .i64 c]] η v η' ∧ RdI .i64 η' v (readsL op b c) ∧ ExtB η.nx η η' := by
 refine call_of (PT := pl85) Try.func85 rfl h ok85 rfl ?_
 have E1 : ExtB η.nx η (η.new (.live false [.int .i64 op, .int .i64 a, .int .i64 b, .int .i64 c])) := .new (Nat.le_refl _)
 by_cases h0 : op = 0
 ·subst h0
  simp -implicitDefEqProofs (disch := omega) only [go_sem]
  exact ⟨.inl ⟨rfl, .inl rfl⟩, E1⟩
 by_cases h2 : op = 2
 ·subst h2
  simp -implicitDefEqProofs (disch := omega) only [go_sem]
  exact ⟨.inl ⟨rfl, .inl rfl⟩, E1⟩
 by_cases h4 : op = 4
 ·subst h4
  simp -implicitDefEqProofs (disch := omega) only [go_sem]
  exact ⟨.inl ⟨rfl, .inl rfl⟩, E1⟩
 by_cases h20 : op = 20
 ·subst h20
  simp -implicitDefEqProofs (disch := omega) only [go_sem]
  exact ⟨.inl ⟨rfl, .inl rfl⟩, E1⟩
 unfold readsL
 rw [if_neg (by omega)]
 simp -implicitDefEqProofs (disch := omega) only [go_sem]
 obtain ⟨v, η', k, rfl, rfl⟩ := operands_spec h79 (η.new (.live false [.int .i64 op, .int .i64 a, .int .i64 b, .int .i64 c])) op (by omega)
 rw [if_pos (by omega)] at k
 refine thenN_call ⟨_, _, k, ?_⟩
 by_cases h8 : 8 ≤ op ∧ op ≤ 18
 ·rw [if_pos h8, if_pos h8]
  simp -implicitDefEqProofs (disch := omega) only [go_sem]
  exact ⟨.inr ⟨η.nx + 1, 0, .kn 2, false, _, rfl, by show (if η.nx + 1 = η.nx + 1 then _ else _) = _; rw [if_pos rfl], Nat.lt_succ_self _, by simp, by simp, rfl⟩, E1.trans (.new (Nat.le_succ _))⟩
 ·rw [if_neg h8, if_neg h8]
  simp -implicitDefEqProofs (disch := omega) only [go_sem]
  exact ⟨.inr ⟨η.nx + 1, 0, .kn 1, false, _, rfl, by show (if η.nx + 1 = η.nx + 1 then _ else _) = _; rw [if_pos rfl], Nat.lt_succ_self _, by simp, by simp, rfl⟩, E1.trans (.new (Nat.le_succ _))⟩
end Go.Proofs.Ytjljolnhmmbkoaa
namespace Go.Proofs.Ytjljolnhmmbkoaa
open Go.Eng
set_option autoImplicit false
set_option maxRecDepth 100000
variable {nat : ∀ [Deep], Nats}
theorem does_no_spec (h : ∀ [Deep], nat 87 = none) (h103 : ∀ [Deep], nat 103 = none) (η : HN) (p op a b c : Nat) (came : Bool) (z1 z2 : AV) (hp : η.f p = .live false [.bool came, z1, z2]) (hop : op = 3 ∨ op = 19 ∨ op = 20) (hn : p < η.nx) :
  ∃ v η', CallN Try.prog nat 87 [.ptr p 0, .agg [.int .i64 op, .int .i64 a, .int .i64 b, .int .i64 c]] η v η' ∧ ExtB η.nx η η' := by
 refine call_of (PT := pl87) Try.func87 rfl h ok87 rfl ?_
 have E1 : ExtB η.nx η (η.new (.live false [.int .i64 op, .int .i64 a, .int .i64 b, .int .i64 c])) := .new (Nat.le_refl _)
 rcases hop with rfl | rfl | rfl
 ·simp -implicitDefEqProofs (disch := omega) only [go_sem]
  exact E1
 ·simp -implicitDefEqProofs (disch := omega) only [go_sem]
  exact E1
 ·simp -implicitDefEqProofs (disch := omega) only [go_sem]
  exact E1
theorem does_out_spec (h : ∀ [Deep], nat 87 = none) (h103 : ∀ [Deep], nat 103 = none) (η : HN) (p a b c q off m x : Nat) (cap : Cp) (row : List AV) (came : Bool) (z1 : AV) (hp : η.f p = .live false [.bool came, z1, .slice q off m cap]) (hn : p < η.nx) (hq : q < η.nx)
  (hb : η.f q = .live false row) (ha : a / 64 < m) (hr : row[off + a / 64]? = some (.int .u64 x)) (hm : m ≤ 1099511627776) :
  ∃ v η', CallN Try.prog nat 87 [.ptr p 0, .agg [.int .i64 5, .int .i64 a, .int .i64 b, .int .i64 c]] η v η' ∧ η' = (η.new (.live false [.int .i64 5, .int .i64 a, .int .i64 b, .int .i64 c])).put q (.live false (row.set (off + a / 64) (.int .u64 (x ||| 2 ^ (a % 64))))) := by
 refine call_of (PT := pl87) Try.func87 rfl h ok87 rfl ?_
 simp -implicitDefEqProofs (disch := omega) only [go_sem, hp]
 obtain ⟨v, η', k, rfl⟩ := add_spec h103 (η.new (.live false [.int .i64 5, .int .i64 a, .int .i64 b, .int .i64 c])) q off cap m row x a (by show (if q = η.nx then _ else _) = _; rw [if_neg (by omega)]; exact hb) ha hr hm
 refine dE_call ⟨_, _, k, ?_⟩
 simp -implicitDefEqProofs (disch := omega) only [go_sem, hp]
theorem does_slot_spec (h : ∀ [Deep], nat 87 = none) (h103 : ∀ [Deep], nat 103 = none) (η : HN) (p op a b c q off m x : Nat) (cap : Cp) (row : List AV) (came : Bool) (z2 : AV) (hp : η.f p = .live false [.bool came, .slice q off m cap, z2]) (hn : p < η.nx) (hq : q < η.nx)
  (hop : op ≤ 18) (h3 : op ≠ 3) (h5 : op ≠ 5) (hb : η.f q = .live false row) (ha : a / 64 < m) (hr : row[off + a / 64]? = some (.int .u64 x)) (hm : m ≤ 1099511627776) :
  ∃ v η', CallN Try.prog nat 87 [.ptr p 0, .agg [.int .i64 op, .int .i64 a, .int .i64 b, .int .i64 c]] η v η' ∧ η' = (η.new (.live false [.int .i64 op, .int .i64 a, .int .i64 b, .int .i64 c])).put q (.live false (row.set (off + a / 64) (.int .u64 (x ||| 2 ^ (a % 64))))) := by
 refine call_of (PT := pl87) Try.func87 rfl h ok87 rfl ?_
 simp -implicitDefEqProofs (disch := omega) only [go_sem, hp]
 obtain ⟨v, η', k, rfl⟩ := add_spec h103 (η.new (.live false [.int .i64 op, .int .i64 a, .int .i64 b, .int .i64 c])) q off cap m row x a (by show (if q = η.nx then _ else _) = _; rw [if_neg (by omega)]; exact hb) ha hr hm
 refine dE_call ⟨_, _, k, ?_⟩
 simp -implicitDefEqProofs (disch := omega) only [go_sem, hp]
end Go.Proofs.Ytjljolnhmmbkoaa
namespace Go.Proofs.Ytjljolnhmmbkoaa
open Go.Eng Go.Plain
set_option autoImplicit false
set_option maxRecDepth 100000
variable {nat : ∀ [Deep], Nats}
def Usual (nat : ∀ [Deep], Nats) : Prop := ∀ f : Nat, f ∉ [16, 22, 66, 67, 68, 107] → ∀ [Deep], nat f = none
def firstN (q : Nat → Bool) : List Nat → Nat → Nat
 | [], _ => 18446744073709551615
 | x :: r, i => if q x then i else firstN q r (i + 1)
theorem firstN_skip {q : Nat → Bool} : ∀ (l : List Nat) (i j : Nat), (∀ x ∈ l.take i, q x = false) → i ≤ l.length → firstN q l j = firstN q (l.drop i) (j + i)
 | l, 0, j, _, _ => rfl
 | [], i + 1, j, _, h => by simp at h
 | x :: l, i + 1, j, hq, h => by
  rw [List.drop_succ_cons, firstN, hq x (by simp), if_neg (by decide), firstN_skip l i (j + 1) (fun y hy => hq y (by rw [List.take_succ_cons]; exact List.mem_cons_of_mem _ hy)) (by simpa using h)]
  congr 1; omega
theorem firstN_any {q : Nat → Bool} : ∀ (l : List Nat) (i : Nat), i + l.length ≤ 9223372036854775807 → (firstN q l i < 9223372036854775808 ↔ l.any q = true) ∧ firstN q l i < 18446744073709551616
 | [], i, h => by simp [firstN]
 | x :: l, i, h => by
  rw [List.length_cons] at h
  unfold firstN
  cases hx : q x with
  | true => simp [hx]; omega
  | false => simpa [hx] using firstN_any l (i + 1) (by omega)
def indI (y fv : AV) (l : List Nat) (q : Nat → Bool) (η0 : HN) (m : Nat) (φ : FN) (η : HN) : Prop := η = η0 ∧ ∃ i, m = l.length - i ∧ i ≤ l.length ∧ φ 0 = y ∧ φ 1 = fv ∧ φ 7 = .int .i64 l.length ∧ φ 8 = .int .i64 i ∧ ∀ x ∈ l.take i, q x = false
theorem take_succ_all {q : Nat → Bool} {l : List Nat} {i : Nat} (h : ∀ x ∈ l.take i, q x = false) (hi : i < l.length) (hx : q l[i] = false) : ∀ x ∈ l.take (i + 1), q x = false := by
 intro x hx'
 rw [List.take_succ_eq_append_getElem hi, List.mem_append, List.mem_singleton] at hx'
 rcases hx' with h1 | rfl
 ·exact h x h1
 ·exact hx
theorem index_spec (U : Usual nat) (η : HN) (y : AV) (l : List Nat) (q : Nat → Bool) (f : Nat) (caps : List AV) (hy : RdI .i64 η y l) (hl : l.length ≤ 1099511627776) (hq : ∀ n ∈ l, CallN Try.prog nat f (.int .i64 n :: caps) η (.bool (q n)) η) :
  ∃ v η', CallN Try.prog nat 100 [y, .func f [] caps] η v η' ∧ v = .int .i64 (firstN q l 0) ∧ η' = η := by
 refine call_of (PT := pl100) Try.func100 rfl (U 100 (by decide)) ok100 rfl ?_
 have hyl : ∀ η', lenN (.slice 23 1 8) y η' = .ok (.int .i64 l.length) η' := fun η' => by have := RdR.len (e := 23) (y' := 8) (η' := η') hy (by simp; omega); simpa using this
 simp -implicitDefEqProofs (disch := omega) only [go_sem, hyl]
 refine wpN_loop (indI y (.func f [] caps) l q η) l.length ⟨rfl, 0, by omega, by omega, rfl, rfl, rfl, rfl, by simp⟩ ?_
 rintro m φ η' ⟨rfl, i, hm, hi, h0, h1, h7, h8, hx⟩
 by_cases hlt : i < l.length
 ·obtain ⟨b, off, cap, ro, row, rfl, hb, hnb, hr⟩ := hy.at hlt
  simp -implicitDefEqProofs (disch := omega) only [go_sem, h0, h1, h7, h8, hb, hr]
  refine thenN_call ⟨_, _, hq _ (List.getElem_mem hlt), ?_⟩
  cases hqx : q l[i] with
  | true =>
   simp -implicitDefEqProofs (disch := omega) only [go_sem, h0, h1, h7, h8, hb, hr]
   rw [firstN_skip l i 0 hx hi, List.drop_eq_getElem_cons hlt, firstN, hqx, if_pos rfl, Nat.zero_add]
  | false =>
   simp -implicitDefEqProofs (disch := omega) only [go_sem, h0, h1, h7, h8, hb, hr]
   exact ⟨l.length - (i + 1), by omega, rfl, i + 1, rfl, by omega, h0, h1, h7, rfl, take_succ_all hx hlt hqx⟩
 ·obtain rfl : i = l.length := by omega
  simp -implicitDefEqProofs (disch := omega) only [go_sem, h0, h1, h7, h8]
  rw [firstN_skip l l.length 0 hx (Nat.le_refl _), List.drop_length]; rfl
theorem contains_spec (U : Usual nat) (η : HN) (y : AV) (l : List Nat) (q : Nat → Bool) (f : Nat) (caps : List AV) (hy : RdI .i64 η y l) (hl : l.length ≤ 1099511627776) (hq : ∀ n ∈ l, CallN Try.prog nat f (.int .i64 n :: caps) η (.bool (q n)) η) :
  ∃ v η', CallN Try.prog nat 73 [y, .func f [] caps] η v η' ∧ v = .bool (l.any q) ∧ η' = η := by
 refine call_of (PT := pl73) Try.func73 rfl (U 73 (by decide)) ok73 rfl ?_
 obtain ⟨v, η', k, rfl, rfl⟩ := index_spec U η y l q f caps hy hl hq
 simp -implicitDefEqProofs (disch := omega) only [go_sem]
 refine thenN_call ⟨_, _, k, ?_⟩
 obtain ⟨a1, a2⟩ := firstN_any (q := q) l 0 (by omega)
 cases ha : l.any q with
 | true =>
  have := a1.2 ha
  simp -implicitDefEqProofs (disch := omega) only [go_sem]
 | false =>
  have hn : ltN .i64 (firstN q l 0) 0 = true := ltN_neg (by rw [ha] at a1; simp at a1; omega)
  simp -implicitDefEqProofs (disch := omega) only [go_sem, hn]
theorem index2_spec (U : Usual nat) (η : HN) (y : AV) (l : List Nat) (q : Nat → Bool) (f : Nat) (caps : List AV) (hy : RdI .i64 η y l) (hl : l.length ≤ 1099511627776) (hq : ∀ n ∈ l, CallN Try.prog nat f (.int .i64 n :: caps) η (.bool (q n)) η) :
  ∃ v η', CallN Try.prog nat 101 [y, .func f [] caps] η v η' ∧ v = .int .i64 (firstN q l 0) ∧ η' = η := by
 refine call_of (PT := pl101) Try.func101 rfl (U 101 (by decide)) ok101 rfl ?_
 have hyl : ∀ η', lenN (.slice 3 1 8) y η' = .ok (.int .i64 l.length) η' := fun η' => by have := RdR.len (e := 3) (y' := 8) (η' := η') hy (by simp; omega); simpa using this
 simp -implicitDefEqProofs (disch := omega) only [go_sem, hyl]
 refine wpN_loop (indI y (.func f [] caps) l q η) l.length ⟨rfl, 0, by omega, by omega, rfl, rfl, rfl, rfl, by simp⟩ ?_
 rintro m φ η' ⟨rfl, i, hm, hi, h0, h1, h7, h8, hx⟩
 by_cases hlt : i < l.length
 ·obtain ⟨b, off, cap, ro, row, rfl, hb, hnb, hr⟩ := hy.at hlt
  simp -implicitDefEqProofs (disch := omega) only [go_sem, h0, h1, h7, h8, hb, hr]
  refine thenN_call ⟨_, _, hq _ (List.getElem_mem hlt), ?_⟩
  cases hqx : q l[i] with
  | true =>
   simp -implicitDefEqProofs (disch := omega) only [go_sem, h0, h1, h7, h8, hb, hr]
   rw [firstN_skip l i 0 hx hi, List.drop_eq_getElem_cons hlt, firstN, hqx, if_pos rfl, Nat.zero_add]
  | false =>
   simp -implicitDefEqProofs (disch := omega) only [go_sem, h0, h1, h7, h8, hb, hr]
   exact ⟨l.length - (i + 1), by omega, rfl, i + 1, rfl, by omega, h0, h1, h7, rfl, take_succ_all hx hlt hqx⟩
 ·obtain rfl : i = l.length := by omega
  simp -implicitDefEqProofs (disch := omega) only [go_sem, h0, h1, h7, h8]
  rw [firstN_skip l l.length 0 hx (Nat.le_refl _), List.drop_length]; rfl
theorem contains2_spec (U : Usual nat) (η : HN) (y : AV) (l : List Nat) (q : Nat → Bool) (f : Nat) (caps : List AV) (hy : RdI .i64 η y l) (hl : l.length ≤ 1099511627776) (hq : ∀ n ∈ l, CallN Try.prog nat f (.int .i64 n :: caps) η (.bool (q n)) η) :
  ∃ v η', CallN Try.prog nat 81 [y, .func f [] caps] η v η' ∧ v = .bool (l.any q) ∧ η' = η := by
 refine call_of (PT := pl81) Try.func81 rfl (U 81 (by decide)) ok81 rfl ?_
 obtain ⟨v, η', k, rfl, rfl⟩ := index2_spec U η y l q f caps hy hl hq
 simp -implicitDefEqProofs (disch := omega) only [go_sem]
 refine thenN_call ⟨_, _, k, ?_⟩
 obtain ⟨a1, a2⟩ := firstN_any (q := q) l 0 (by omega)
 cases ha : l.any q with
 | true =>
  have := a1.2 ha
  simp -implicitDefEqProofs (disch := omega) only [go_sem]
 | false =>
  have hn : ltN .i64 (firstN q l 0) 0 = true := ltN_neg (by rw [ha] at a1; simp at a1; omega)
  simp -implicitDefEqProofs (disch := omega) only [go_sem, hn]
end Go.Proofs.Ytjljolnhmmbkoaa
namespace Go.Proofs.Ytjljolnhmmbkoaa
open Go.Eng Go.Plain
set_option autoImplicit false
set_option maxRecDepth 100000
variable {nat : ∀ [Deep], Nats}
structure PV where
 z1 : AV
 z2 : AV
 z3 : AV
 z4 : AV
 z5 : AV
 z6 : AV
abbrev PV.cells (z : PV) : List AV := [z.z1, z.z2, z.z3, z.z4, z.z5, z.z6]
def RdC (η : HN) (y : AV) (l : List Ins) : Prop := RdR 4 η y (l.map Ins.cells)
structure IsP (η : HN) (z : PV) (p : PD) : Prop where
 ins : RdI .i64 η z.z1 p.ins
 outs : RdI .i64 η z.z2 p.outs
 slots : RdI .i64 η z.z3 p.slots
 mems : RdI .i64 η z.z4 p.mems
 consts : RdI .i64 η z.z5 p.consts
 code : RdC η z.z6 p.code
structure Fine (p : PD) : Prop where
 ins : p.ins.length ≤ 1099511627776 ∧ ∀ n ∈ p.ins, n < 18446744073709551616
 outs : p.outs.length ≤ 1099511627776 ∧ ∀ n ∈ p.outs, n < 18446744073709551616
 slots : p.slots.length ≤ 1099511627776 ∧ ∀ n ∈ p.slots, n < 18446744073709551616
 mems : p.mems.length ≤ 1099511627776 ∧ ∀ n ∈ p.mems, n < 18446744073709551616
 consts : p.consts.length ≤ 1099511627776 ∧ ∀ n ∈ p.consts, n < 18446744073709551616
 code : p.code.length ≤ 1099511627776 ∧ ∀ i ∈ p.code, i.op < 18446744073709551616 ∧ i.a < 18446744073709551616 ∧ i.b < 18446744073709551616 ∧ i.c < 18446744073709551616
theorem rdI_ext {k : IntKind} {η η' : HN} {y : AV} {l : List Nat} (h : RdI k η y l) (e : ExtB η.nx η η') : RdI k η' y l := RdR.ext (base := η.nx) h e
theorem IsP.ext {η η' : HN} {z : PV} {p : PD} (h : IsP η z p) (e : ExtB η.nx η η') : IsP η' z p :=
 ⟨rdI_ext h.ins e, rdI_ext h.outs e, rdI_ext h.slots e, rdI_ext h.mems e, rdI_ext h.consts e, RdR.ext (base := η.nx) h.code e⟩
theorem rdI_len {k : IntKind} {η : HN} {y : AV} {l : List Nat} (h : RdI k η y l) (hl : l.length ≤ 1099511627776) : ∀ e y' η', lenN (.slice e 1 y') y η' = .ok (.int .i64 l.length) η' := fun e y' η' => by
 have := RdR.len (e := e) (y' := y') (η' := η') h (by simp; omega)
 simpa using this
theorem rdC_len {η : HN} {y : AV} {l : List Ins} (h : RdC η y l) (hl : l.length ≤ 1099511627776) : ∀ e y' η', lenN (.slice e 4 y') y η' = .ok (.int .i64 l.length) η' := fun e y' η' => by
 have := RdR.len (e := e) (y' := y') (η' := η') h (by simp; omega)
 simpa using this
theorem odd_all (l : List Nat) : l.any (fun k => decide (k ≠ 1 ∧ k ≠ 2)) = !l.all kdOk := by
 induction l with
 | nil => rfl
 | cons k l ih =>
  rw [List.any_cons, List.all_cons, ih]
  unfold kdOk
  by_cases h1 : k = 1
  ·subst h1; simp
  ·by_cases h2 : k = 2
   ·subst h2; simp
   ·simp [h1, h2]
theorem odds_call (U : Usual nat) (η : HN) (y : AV) (l : List Nat) (hy : RdI .i64 η y l) (hl : l.length ≤ 1099511627776) : CallN Try.prog nat 73 [y, .func 74 [] []] η (.bool (!l.all kdOk)) η := by
 obtain ⟨v, η', k, rfl, rfl⟩ := contains_spec U η y l (fun k => decide (k ≠ 1 ∧ k ≠ 2)) 74 [] hy hl fun n _ => by
  obtain ⟨v, η', k, rfl, rfl⟩ := odd_spec (U 74 (by decide)) η n
  exact k
 rw [odd_all] at k
 exact k
theorem parts_spec (U : Usual nat) (η : HN) (c : Nat) (ro : Bool) (z : PV) (p : PD) (hc : η.f c = .live ro z.cells) (hcn : c < η.nx) (hp : IsP η z p) (hf : Fine p) :
  ∃ v η', CallN Try.prog nat 41 [.ptr c 0] η v η' ∧ v = .bool (partsF p) ∧ ExtB η.nx η η' := by
 refine call_of (PT := pl41) Try.func41 rfl (U 41 (by decide)) ok41 rfl ?_
 have l1 := rdI_len hp.ins hf.ins.1
 have l2 := rdI_len hp.outs hf.outs.1
 have l3 := rdI_len hp.slots hf.slots.1
 have l4 := rdI_len hp.mems hf.mems.1
 have l5 := rdI_len hp.consts hf.consts.1
 have l6 := rdC_len hp.code hf.code.1
 have h1 := hf.ins.1
 have h2 := hf.outs.1
 have h3 := hf.slots.1
 have h4 := hf.mems.1
 have h5 := hf.consts.1
 have h6 := hf.code.1
 simp -implicitDefEqProofs (disch := omega) only [go_sem, hc, l1, l2, l3, l4, l5, l6]
 refine loop_n 4 ?_
 unfold partsF
 by_cases s1 : 1024 < p.slots.length
 ·rw [decide_eq_false (show ¬ p.slots.length ≤ 1024 by omega)]
  simp -implicitDefEqProofs (disch := omega) only [go_sem]
  exact extN (extP (extN (.refl _ _)))
 by_cases s2 : 1024 < p.mems.length
 ·rw [decide_eq_false (show ¬ p.mems.length ≤ 1024 by omega), Bool.false_and, Bool.and_false]
  simp -implicitDefEqProofs (disch := omega) only [go_sem]
  exact extN (extP (extN (.refl _ _)))
 by_cases s3 : 1024 < p.consts.length
 ·rw [decide_eq_false (show ¬ p.consts.length ≤ 1024 by omega), Bool.false_and, Bool.and_false, Bool.and_false]
  simp -implicitDefEqProofs (disch := omega) only [go_sem]
  exact extN (extP (extN (.refl _ _)))
 rw [decide_eq_true (show p.slots.length ≤ 1024 by omega), decide_eq_true (show p.mems.length ≤ 1024 by omega), decide_eq_true (show p.consts.length ≤ 1024 by omega), Bool.true_and, Bool.true_and, Bool.true_and]
 have c1 := RdR.cells hp.ins
 have c2 := RdR.cells hp.outs
 have c3 := RdR.cells hp.slots
 have c4 := RdR.cells hp.mems
 simp -implicitDefEqProofs (disch := omega) only [go_sem, c1, c2, c3, c4]
 refine loop_n 5 ?_
 simp -implicitDefEqProofs (disch := omega) only [go_sem]
 have E4 : ExtB η.nx η ((((η.new (.live false [.nilslice, .nilslice, .nilslice, .nilslice, .nilslice, .nilslice])).put η.nx (.live false z.cells)).new (.live false [.int .i64 p.slots.length, .int .i64 p.mems.length, .int .i64 p.consts.length])).new (.live false [z.z1, z.z2, z.z3, z.z4])) := extN (extN (extP (extN (.refl _ _))))
 refine thenN_call ⟨_, _, odds_call U _ _ _ (rdI_ext hp.ins E4) hf.ins.1, ?_⟩
 cases o1 : p.ins.all kdOk with
 | false =>
  simp -implicitDefEqProofs (disch := omega) only [go_sem, Bool.not_false, Bool.false_and]
  exact E4
 | true =>
 simp -implicitDefEqProofs (disch := omega) only [go_sem, Bool.not_true, Bool.true_and]
 refine thenN_call ⟨_, _, odds_call U _ _ _ (rdI_ext hp.outs E4) hf.outs.1, ?_⟩
 cases o2 : p.outs.all kdOk with
 | false =>
  simp -implicitDefEqProofs (disch := omega) only [go_sem, Bool.not_false, Bool.false_and]
  exact E4
 | true =>
 simp -implicitDefEqProofs (disch := omega) only [go_sem, Bool.not_true, Bool.true_and]
 refine thenN_call ⟨_, _, odds_call U _ _ _ (rdI_ext hp.slots E4) hf.slots.1, ?_⟩
 cases o3 : p.slots.all kdOk with
 | false =>
  simp -implicitDefEqProofs (disch := omega) only [go_sem, Bool.not_false, Bool.false_and]
  exact E4
 | true =>
 simp -implicitDefEqProofs (disch := omega) only [go_sem, Bool.not_true, Bool.true_and]
 refine thenN_call ⟨_, _, odds_call U _ _ _ (rdI_ext hp.mems E4) hf.mems.1, ?_⟩
 cases o4 : p.mems.all kdOk with
 | false =>
  simp -implicitDefEqProofs (disch := omega) only [go_sem, Bool.not_false, Bool.false_and]
  exact E4
 | true =>
 simp -implicitDefEqProofs (disch := omega) only [go_sem, Bool.not_true, Bool.true_and, l1, l2, l6]
 by_cases s4 : 64 < p.ins.length
 ·rw [decide_eq_false (show ¬ p.ins.length ≤ 64 by omega), Bool.false_and]
  simp -implicitDefEqProofs (disch := omega) only [go_sem, l1, l2, l6]
  exact E4
 by_cases s5 : 64 < p.outs.length
 ·rw [decide_eq_true (show p.ins.length ≤ 64 by omega), Bool.true_and, decide_eq_false (show ¬ p.outs.length ≤ 64 by omega), Bool.false_and]
  simp -implicitDefEqProofs (disch := omega) only [go_sem, l1, l2, l6]
  exact E4
 rw [decide_eq_true (show p.ins.length ≤ 64 by omega), decide_eq_true (show p.outs.length ≤ 64 by omega), Bool.true_and, Bool.true_and]
 by_cases s6 : 8192 < p.code.length
 ·rw [decide_eq_false (show ¬ p.code.length ≤ 8192 by omega)]
  simp -implicitDefEqProofs (disch := omega) only [go_sem, l1, l2, l6]
  exact E4
 rw [decide_eq_true (show p.code.length ≤ 8192 by omega)]
 simp -implicitDefEqProofs (disch := omega) only [go_sem, l1, l2, l6]
 exact E4
end Go.Proofs.Ytjljolnhmmbkoaa
namespace Go.Proofs.Ytjljolnhmmbkoaa
open Go.Eng Go.Plain
set_option autoImplicit false
set_option maxRecDepth 100000
variable {nat : ∀ [Deep], Nats}
theorem within_call (U : Usual nat) (η : HN) (y : AV) (l : List Nat) (n : Nat) (hn : n < 18446744073709551616) (hm : l.length ≤ 1099511627776) (hy : ∀ e y' η', lenN (.slice e 1 y') y η' = .ok (.int .i64 l.length) η') : CallN Try.prog nat 76 [y, .int .i64 n] η (.bool (has l n)) η := by
 obtain ⟨v, η', k, rfl, rfl⟩ := within_spec (U 76 (by decide)) η y n l.length hn (by omega) hy
 exact k
theorem within2_call (U : Usual nat) (η : HN) (y : AV) (l : List Nat) (n : Nat) (hn : n < 18446744073709551616) (hm : l.length ≤ 1099511627776) (hy : ∀ e y' η', lenN (.slice e 1 y') y η' = .ok (.int .i64 l.length) η') : CallN Try.prog nat 77 [y, .int .i64 n] η (.bool (has l n)) η := by
 obtain ⟨v, η', k, rfl, rfl⟩ := within2_spec (U 77 (by decide)) η y n l.length hn (by omega) hy
 exact k
theorem target_call (U : Usual nat) (η : HN) (c : Nat) (ro : Bool) (z : PV) (p : PD) (pc to : Nat) (hc : η.f c = .live ro z.cells) (hpc : pc ≤ 9223372036854775807) (hto : to < 18446744073709551616) (hm : p.code.length ≤ 1099511627776) (hy : ∀ e y' η', lenN (.slice e 4 y') z.z6 η' = .ok (.int .i64 p.code.length) η') :
  CallN Try.prog nat 78 [.ptr c 0, .int .i64 pc, .int .i64 to] η (.bool (targetF p pc to)) η := by
 obtain ⟨v, η', k, rfl, rfl⟩ := target_spec (U 78 (by decide)) η c ro _ _ _ _ _ _ pc to p.code.length hc hpc hto (by omega) hy
 rw [Bool.decide_and] at k
 exact k
theorem slot_call (U : Usual nat) (η : HN) (b : Nat) (ro : Bool) (z : PV) (p : PD) (n : Nat) (hb : η.f b = .live ro z.cells) (hn : n < 18446744073709551616) (hm : p.slots.length ≤ 1099511627776) (hy : ∀ e y' η', lenN (.slice e 1 y') z.z3 η' = .ok (.int .i64 p.slots.length) η') :
  CallN Try.prog nat 75 [.int .i64 n, .ptr b 0] η (.bool (has p.slots n)) η := by
 have : ∃ v η', CallN Try.prog nat 75 [.int .i64 n, .ptr b 0] η v η' ∧ v = .bool (has p.slots n) ∧ η' = η := by
  refine call_of (PT := pl75) Try.func75 rfl (U 75 (by decide)) ok75 rfl ?_
  simp -implicitDefEqProofs (disch := omega) only [go_sem, hb]
  refine thenN_call ⟨_, _, within_call U _ _ p.slots _ hn hm hy, ?_⟩
  simp -implicitDefEqProofs (disch := omega) only [go_sem, hb]
 obtain ⟨v, η', k, rfl, rfl⟩ := this
 exact k
theorem operands_call (U : Usual nat) (η : HN) (op : Nat) (hop : op < 18446744073709551616) : CallN Try.prog nat 79 [.int .i64 op] η (.int .i64 (if op < 20 then (if 8 ≤ op ∧ op ≤ 18 then 3 else 2) else if op = 20 then 1 else 0)) η := by
 obtain ⟨v, η', k, rfl, rfl⟩ := operands_spec (U 79 (by decide)) η op hop
 exact k
set_option maxHeartbeats 1000000 in
theorem there_spec (U : Usual nat) (η : HN) (c : Nat) (ro : Bool) (z : PV) (p : PD) (pc : Nat) (i : Ins) (hc : η.f c = .live ro z.cells) (hcn : c < η.nx) (hp : IsP η z p) (hf : Fine p) (hpc : pc ≤ 9223372036854775807)
  (hi : i.op < 18446744073709551616 ∧ i.a < 18446744073709551616 ∧ i.b < 18446744073709551616 ∧ i.c < 18446744073709551616) :
  ∃ v η', CallN Try.prog nat 42 [.ptr c 0, .int .i64 pc, .agg i.cells] η v η' ∧ v = .bool (thereF p pc i) ∧ ExtB η.nx η η' := by
 refine call_of (PT := pl42) Try.func42 rfl (U 42 (by decide)) ok42 rfl ?_
 have l1 := rdI_len hp.ins hf.ins.1
 have l2 := rdI_len hp.outs hf.outs.1
 have l3 := rdI_len hp.slots hf.slots.1
 have l4 := rdI_len hp.mems hf.mems.1
 have l5 := rdI_len hp.consts hf.consts.1
 have l6 := rdC_len hp.code hf.code.1
 obtain ⟨op, a, b, c3⟩ := i
 obtain ⟨i0, i1, i2, i3⟩ := hi
 have hic : Ins.cells ⟨op, a, b, c3⟩ = [.int .i64 op, .int .i64 a, .int .i64 b, .int .i64 c3] := rfl
 have E : ExtB η.nx η (((η.new (.live false [.int .i64 op, .int .i64 a, .int .i64 b, .int .i64 c3])).new (.live false [.nilslice, .nilslice, .nilslice, .nilslice, .nilslice, .nilslice])).put (η.nx + 1) (.live false z.cells)) := extP (extN (extN (.refl _ _)))
 have hb : (((η.new (.live false [.int .i64 op, .int .i64 a, .int .i64 b, .int .i64 c3])).new (.live false [.nilslice, .nilslice, .nilslice, .nilslice, .nilslice, .nilslice])).put (η.nx + 1) (.live false z.cells)).f (η.nx + 1) = .live false z.cells := by show (if η.nx + 1 = η.nx + 1 then _ else _) = _; rw [if_pos rfl]
 have hb2 : (((η.new (.live false [.int .i64 op, .int .i64 a, .int .i64 b, .int .i64 c3])).new (.live false [.nilslice, .nilslice, .nilslice, .nilslice, .nilslice, .nilslice])).put (η.nx + 1) (.live false z.cells)).f η.nx = .live false [.int .i64 op, .int .i64 a, .int .i64 b, .int .i64 c3] := by
  show (if η.nx = η.nx + 1 then _ else if η.nx = η.nx + 1 then _ else if η.nx = η.nx then _ else _) = _; rw [if_neg (by omega), if_neg (by omega), if_pos rfl]
 have hc2 : (((η.new (.live false [.int .i64 op, .int .i64 a, .int .i64 b, .int .i64 c3])).new (.live false [.nilslice, .nilslice, .nilslice, .nilslice, .nilslice, .nilslice])).put (η.nx + 1) (.live false z.cells)).f c = .live ro z.cells := (E.2 c hcn).trans hc
 simp -implicitDefEqProofs (disch := omega) only [go_sem, hc, hic]
 generalize ((η.new (.live false [.int .i64 op, .int .i64 a, .int .i64 b, .int .i64 c3])).new (.live false [.nilslice, .nilslice, .nilslice, .nilslice, .nilslice, .nilslice])).put (η.nx + 1) (.live false z.cells) = η1 at *
 unfold thereF
 dsimp only
 by_cases q0 : op = 0
 ·subst q0
  simp -implicitDefEqProofs (disch := omega) only [go_sem, hb, hb2, or_false, or_true, false_or, true_or, reduceCtorEq]
  refine thenN_call ⟨_, _, slot_call U _ _ _ z p _ hb i1 hf.slots.1 l3, ?_⟩
  cases hx0 : has p.slots a with
  | false =>
   simp -implicitDefEqProofs (disch := omega) only [go_sem, hb, hb2, Bool.false_and]
   first | exact E | exact ⟨rfl, E⟩
  | true =>
  simp -implicitDefEqProofs (disch := omega) only [go_sem, hb, hb2, Bool.true_and]
  refine thenN_call ⟨_, _, within2_call U _ _ p.consts _ i2 hf.consts.1 l5, ?_⟩
  simp -implicitDefEqProofs (disch := omega) only [go_sem, hb, hb2, true_and]
  first | exact E | exact ⟨rfl, E⟩
 by_cases q1 : op = 1
 ·subst q1
  simp -implicitDefEqProofs (disch := omega) only [go_sem, hb, hb2, or_false, or_true, false_or, true_or, reduceCtorEq]
  refine thenN_call ⟨_, _, slot_call U _ _ _ z p _ hb i1 hf.slots.1 l3, ?_⟩
  cases hx0 : has p.slots a with
  | false =>
   simp -implicitDefEqProofs (disch := omega) only [go_sem, hb, hb2, Bool.false_and]
   first | exact E | exact ⟨rfl, E⟩
  | true =>
  simp -implicitDefEqProofs (disch := omega) only [go_sem, hb, hb2, Bool.true_and]
  refine thenN_call ⟨_, _, slot_call U _ _ _ z p _ hb i2 hf.slots.1 l3, ?_⟩
  simp -implicitDefEqProofs (disch := omega) only [go_sem, hb, hb2, true_and]
  first | exact E | exact ⟨rfl, E⟩
 by_cases q6 : op = 6
 ·subst q6
  simp -implicitDefEqProofs (disch := omega) only [go_sem, hb, hb2, or_false, or_true, false_or, true_or, reduceCtorEq]
  refine thenN_call ⟨_, _, slot_call U _ _ _ z p _ hb i1 hf.slots.1 l3, ?_⟩
  cases hx0 : has p.slots a with
  | false =>
   simp -implicitDefEqProofs (disch := omega) only [go_sem, hb, hb2, Bool.false_and]
   first | exact E | exact ⟨rfl, E⟩
  | true =>
  simp -implicitDefEqProofs (disch := omega) only [go_sem, hb, hb2, Bool.true_and]
  refine thenN_call ⟨_, _, slot_call U _ _ _ z p _ hb i2 hf.slots.1 l3, ?_⟩
  simp -implicitDefEqProofs (disch := omega) only [go_sem, hb, hb2, true_and]
  first | exact E | exact ⟨rfl, E⟩
 by_cases q7 : op = 7
 ·subst q7
  simp -implicitDefEqProofs (disch := omega) only [go_sem, hb, hb2, or_false, or_true, false_or, true_or, reduceCtorEq]
  refine thenN_call ⟨_, _, slot_call U _ _ _ z p _ hb i1 hf.slots.1 l3, ?_⟩
  cases hx0 : has p.slots a with
  | false =>
   simp -implicitDefEqProofs (disch := omega) only [go_sem, hb, hb2, Bool.false_and]
   first | exact E | exact ⟨rfl, E⟩
  | true =>
  simp -implicitDefEqProofs (disch := omega) only [go_sem, hb, hb2, Bool.true_and]
  refine thenN_call ⟨_, _, slot_call U _ _ _ z p _ hb i2 hf.slots.1 l3, ?_⟩
  simp -implicitDefEqProofs (disch := omega) only [go_sem, hb, hb2, true_and]
  first | exact E | exact ⟨rfl, E⟩
 by_cases q2 : op = 2
 ·subst q2
  simp -implicitDefEqProofs (disch := omega) only [go_sem, hb, hb2, or_false, or_true, false_or, true_or, reduceCtorEq]
  refine thenN_call ⟨_, _, slot_call U _ _ _ z p _ hb i1 hf.slots.1 l3, ?_⟩
  cases hx0 : has p.slots a with
  | false =>
   simp -implicitDefEqProofs (disch := omega) only [go_sem, hb, hb2, Bool.false_and]
   first | exact E | exact ⟨rfl, E⟩
  | true =>
  simp -implicitDefEqProofs (disch := omega) only [go_sem, hb, hb2, Bool.true_and]
  refine thenN_call ⟨_, _, within_call U _ _ p.mems _ i2 hf.mems.1 l4, ?_⟩
  simp -implicitDefEqProofs (disch := omega) only [go_sem, hb, hb2, true_and]
  first | exact E | exact ⟨rfl, E⟩
 by_cases q3 : op = 3
 ·subst q3
  simp -implicitDefEqProofs (disch := omega) only [go_sem, hb, hb2, or_false, or_true, false_or, true_or, reduceCtorEq]
  refine thenN_call ⟨_, _, within_call U _ _ p.mems _ i1 hf.mems.1 l4, ?_⟩
  cases hx0 : has p.mems a with
  | false =>
   simp -implicitDefEqProofs (disch := omega) only [go_sem, hb, hb2, Bool.false_and]
   first | exact E | exact ⟨rfl, E⟩
  | true =>
  simp -implicitDefEqProofs (disch := omega) only [go_sem, hb, hb2, Bool.true_and]
  refine thenN_call ⟨_, _, slot_call U _ _ _ z p _ hb i2 hf.slots.1 l3, ?_⟩
  simp -implicitDefEqProofs (disch := omega) only [go_sem, hb, hb2, true_and]
  first | exact E | exact ⟨rfl, E⟩
 by_cases q4 : op = 4
 ·subst q4
  simp -implicitDefEqProofs (disch := omega) only [go_sem, hb, hb2, or_false, or_true, false_or, true_or, reduceCtorEq]
  refine thenN_call ⟨_, _, slot_call U _ _ _ z p _ hb i1 hf.slots.1 l3, ?_⟩
  cases hx0 : has p.slots a with
  | false =>
   simp -implicitDefEqProofs (disch := omega) only [go_sem, hb, hb2, Bool.false_and]
   first | exact E | exact ⟨rfl, E⟩
  | true =>
  simp -implicitDefEqProofs (disch := omega) only [go_sem, hb, hb2, Bool.true_and]
  refine thenN_call ⟨_, _, within_call U _ _ p.ins _ i2 hf.ins.1 l1, ?_⟩
  simp -implicitDefEqProofs (disch := omega) only [go_sem, hb, hb2, true_and]
  first | exact E | exact ⟨rfl, E⟩
 by_cases q5 : op = 5
 ·subst q5
  simp -implicitDefEqProofs (disch := omega) only [go_sem, hb, hb2, or_false, or_true, false_or, true_or, reduceCtorEq]
  refine thenN_call ⟨_, _, within_call U _ _ p.outs _ i1 hf.outs.1 l2, ?_⟩
  cases hx0 : has p.outs a with
  | false =>
   simp -implicitDefEqProofs (disch := omega) only [go_sem, hb, hb2, Bool.false_and]
   first | exact E | exact ⟨rfl, E⟩
  | true =>
  simp -implicitDefEqProofs (disch := omega) only [go_sem, hb, hb2, Bool.true_and]
  refine thenN_call ⟨_, _, slot_call U _ _ _ z p _ hb i2 hf.slots.1 l3, ?_⟩
  simp -implicitDefEqProofs (disch := omega) only [go_sem, hb, hb2, true_and]
  first | exact E | exact ⟨rfl, E⟩
 by_cases q19 : op = 19
 ·subst q19
  simp -implicitDefEqProofs (disch := omega) only [go_sem, hb, hb2, or_false, or_true, false_or, true_or, reduceCtorEq]
  refine thenN_call ⟨_, _, target_call U _ _ _ z p _ _ hc2 hpc i1 hf.code.1 l6, ?_⟩
  cases hx0 : targetF p pc a with
  | false =>
   simp -implicitDefEqProofs (disch := omega) only [go_sem, hb, hb2, Bool.false_and]
   first | exact E | exact ⟨rfl, E⟩
  | true =>
  simp -implicitDefEqProofs (disch := omega) only [go_sem, hb, hb2, Bool.true_and]
  refine thenN_call ⟨_, _, slot_call U _ _ _ z p _ hb i2 hf.slots.1 l3, ?_⟩
  simp -implicitDefEqProofs (disch := omega) only [go_sem, hb, hb2, true_and]
  first | exact E | exact ⟨rfl, E⟩
 by_cases q20 : op = 20
 ·subst q20
  simp -implicitDefEqProofs (disch := omega) only [go_sem, hb, hb2, or_false, or_true, false_or, true_or, reduceCtorEq]
  refine thenN_call ⟨_, _, target_call U _ _ _ z p _ _ hc2 hpc i1 hf.code.1 l6, ?_⟩
  simp -implicitDefEqProofs (disch := omega) only [go_sem, hb, hb2, true_and]
  first | exact E | exact ⟨rfl, E⟩
 rw [if_neg q0, if_neg (by omega), if_neg q2, if_neg q3, if_neg q4, if_neg q5, if_neg q19, if_neg q20]
 simp -implicitDefEqProofs (disch := omega) only [go_sem, hb, hb2]
 refine thenN_call ⟨_, _, operands_call U _ _ i0, ?_⟩
 by_cases q8 : 8 ≤ op ∧ op ≤ 18
 ·rw [if_pos (by omega), if_pos q8, decide_eq_true q8, Bool.true_and]
  simp -implicitDefEqProofs (disch := omega) only [go_sem, hb, hb2]
  refine thenN_call ⟨_, _, slot_call U _ _ _ z p _ hb i1 hf.slots.1 l3, ?_⟩
  cases hx0 : has p.slots a with
  | false =>
   simp -implicitDefEqProofs (disch := omega) only [go_sem, hb, hb2, Bool.false_and]
   first | exact E | exact ⟨rfl, E⟩
  | true =>
  simp -implicitDefEqProofs (disch := omega) only [go_sem, hb, hb2, Bool.true_and]
  refine thenN_call ⟨_, _, slot_call U _ _ _ z p _ hb i2 hf.slots.1 l3, ?_⟩
  cases hx1 : has p.slots b with
  | false =>
   simp -implicitDefEqProofs (disch := omega) only [go_sem, hb, hb2, Bool.false_and]
   first | exact E | exact ⟨rfl, E⟩
  | true =>
  simp -implicitDefEqProofs (disch := omega) only [go_sem, hb, hb2, Bool.true_and]
  refine thenN_call ⟨_, _, slot_call U _ _ _ z p _ hb i3 hf.slots.1 l3, ?_⟩
  simp -implicitDefEqProofs (disch := omega) only [go_sem, hb, hb2, true_and]
  first | exact E | exact ⟨rfl, E⟩
 ·rw [decide_eq_false q8, Bool.false_and, if_neg q8, if_neg q20]
  have hr : ∀ x y z : Nat, (if op < 20 then 2 else 0) ≠ 3 := by intro _ _ _; split <;> omega
  have hr1 : (if op < 20 then 2 else 0) < 9223372036854775808 := by split <;> omega
  generalize (if op < 20 then 2 else 0) = r at *
  have hr := hr 0 0 0
  simp -implicitDefEqProofs (disch := omega) only [go_sem, hb, hb2]
  first | exact E | exact ⟨rfl, E⟩
end Go.Proofs.Ytjljolnhmmbkoaa
namespace Go.Proofs.Ytjljolnhmmbkoaa
open Go.Eng Go.Plain
set_option autoImplicit false
set_option maxRecDepth 100000
variable {nat : ∀ [Deep], Nats}
theorem getD_get (l : List Nat) (n : Nat) (h : n < l.length) : l.getD n 0 = l[n] := by rw [List.getD_eq_getElem?_getD, List.getElem?_eq_getElem h]; rfl
theorem not_call (U : Usual nat) (η : HN) (b bk : Nat) (ro : Bool) (z : PV) (p : PD) (k n : Nat) (hb : η.f b = .live ro z.cells) (hk : η.f bk = .live false [.int .i64 k]) (hn : n < p.slots.length) (hs : RdI .i64 η z.z3 p.slots) (hm : p.slots.length ≤ 1099511627776) :
  CallN Try.prog nat 82 [.int .i64 n, .ptr b 0, .ptr bk 0] η (.bool (!isF p k n)) η := by
 have : ∃ v η', CallN Try.prog nat 82 [.int .i64 n, .ptr b 0, .ptr bk 0] η v η' ∧ v = .bool (!isF p k n) ∧ η' = η := by
  refine call_of (PT := pl82) Try.func82 rfl (U 82 (by decide)) ok82 rfl ?_
  obtain ⟨b', off, cap, ro', row, hz, hb', hnb, hr⟩ := hs.at hn
  have hnn : n < 9223372036854775808 := by omega
  simp -implicitDefEqProofs (disch := omega) only [go_sem, hb, hz, hb', hr, hk]
  unfold isF
  rw [getD_get _ _ hn]
 obtain ⟨v, η', k, rfl, rfl⟩ := this
 exact k
theorem any_not (l : List Nat) (q : Nat → Bool) : (!l.any fun n => !q n) = l.all q := by
 induction l with
 | nil => rfl
 | cons x l ih => rw [List.any_cons, List.all_cons, Bool.not_or, ih, Bool.not_not]
theorem is_then (U : Usual nat) {η : HN} {b : Nat} {ro : Bool} {z : PV} {p : PD} {k : Nat} {y : AV} {l : List Nat} {Q : AV → HN → Prop} (hb : η.f b = .live ro z.cells) (hbn : b < η.nx) (hy : RdI .i64 η y l) (hl : l.length ≤ 1099511627776) (hn : ∀ n ∈ l, n < p.slots.length) (hs : RdI .i64 η z.z3 p.slots)
  (hm : p.slots.length ≤ 1099511627776) (h : ∀ η', ExtB η.nx η η' → Q (.bool (l.all (isF p k))) η') : ∃ v η', CallN Try.prog nat 80 [.int .i64 k, y, .ptr b 0] η v η' ∧ Q v η' := by
 refine call_of (PT := pl80) Try.func80 rfl (U 80 (by decide)) ok80 rfl ?_
 simp -implicitDefEqProofs (disch := omega) only [go_sem]
 have E : ExtB η.nx η (η.new (.live false [.int .i64 k])) := extN (.refl _ _)
 obtain ⟨v, η', c, rfl, rfl⟩ := contains2_spec U (η.new (.live false [.int .i64 k])) y l (fun n => !isF p k n) 82 [.ptr b 0, .ptr η.nx 0] (rdI_ext hy E) hl fun n hn' =>
  not_call U _ b η.nx ro z p k n ((E.2 b hbn).trans hb) (by show (if η.nx = η.nx then _ else _) = _; rw [if_pos rfl]) (hn n hn') (rdI_ext hs E) hm
 refine thenN_call ⟨_, _, c, ?_⟩
 simp -implicitDefEqProofs (disch := omega) only [go_sem]
 rw [any_not]
 exact h _ E
end Go.Proofs.Ytjljolnhmmbkoaa
