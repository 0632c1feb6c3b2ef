/- What is proved: numbers written as bytes. numbers that may be below 0 as bytes; the document's own writing of numbers. a machine's step. a machine's state, its ticks, its copy. Conditions: as each theorem says. -/
import Derived.Test.YtjljolnhmmbkoaaValA
import Derived.Test.YtjljolnhmmbkoaaPlain
import Derived.Test.YtjljolnhmmbkoaaWM
import Derived.Test.YtjljolnhmmbkoaaMacC
set_option linter.unusedVariables false
set_option linter.unusedSimpArgs false
set_option linter.unusedSectionVars false
namespace Go.Eng
set_option autoImplicit false
def OwnK (base : Nat) (η : HN) (x : AV) (n c : Nat) (l : List AV) : Prop := ∃ b rest, x = .slice b 0 n (.kn c) ∧ base ≤ b ∧ b < η.nx ∧ l.length = n ∧ n + rest.length = c ∧ η.f b = .live false (l ++ rest)
theorem OwnK.rd {base n c : Nat} {η : HN} {x : AV} {l : List AV} (h : OwnK base η x n c l) : RdA 1 η x n l := by
 obtain ⟨b, rest, rfl, _, h1, h2, h3, h4⟩ := h
 exact .inr ⟨b, 0, _, false, _, rfl, h4, h1, by rw [List.length_append]; omega, by omega, by rw [List.drop_zero, List.take_append_of_le_length (by omega), List.take_of_length_le (by omega)]⟩
theorem OwnK.ext {base n c : Nat} {η η' : HN} {x : AV} {l : List AV} (h : OwnK base η x n c l) (e : ExtB η.nx η η') : OwnK base η' x n c l := by
 obtain ⟨b, rest, h0, hb, h1, h2, h3, h4⟩ := h
 exact ⟨b, rest, h0, hb, by have := e.1; omega, h2, h3, (e.2 b h1).trans h4⟩
theorem setsL_in : ∀ (k l r : List AV), k.length ≤ r.length → setsL (l ++ r) l.length k = (l ++ k) ++ r.drop k.length
 | [], l, r, _ => by simp [setsL]
 | a :: k, l, [], h => by simp at h
 | a :: k, l, b :: r, h => by
  have e : (l ++ b :: r).set l.length a = (l ++ [a]) ++ r := by rw [List.set_append_right _ _ (Nat.le_refl _), Nat.sub_self]; simp
  show setsL ((l ++ b :: r).set l.length a) (l.length + 1) k = _
  rw [e, show l.length + 1 = (l ++ [a]).length by simp, setsL_in k (l ++ [a]) r (by simpa using h)]
  simp
theorem app_K {base n c m : Nat} {η : HN} {x y : AV} {l k : List AV} (hx : OwnK base η x n c l) (hy : RdA 1 η y m k) (hc : n + m ≤ c) (hlen : c ≤ 140737488355328) :
  ∃ x' η', apSrcN 1 1 x y η = .ok x' η' ∧ OwnK base η' x' (n + m) c (l ++ k) ∧ ExtB base η η' := by
 obtain ⟨b, rest, rfl, hb, hbn, hl, hr, hf⟩ := hx
 have zero : apN 1 1 (.slice b 0 n (.kn c)) 0 [] η = .ok (.slice b 0 n (.kn c)) η := by
  show (if (n + 0) * 1 ≤ _ then (if 0 = 0 then _ else _) else _) = _
  rw [if_pos (by omega), if_pos rfl]
 have key : ∀ new : List AV, new.length = m → apN 1 1 (.slice b 0 n (.kn c)) m new η = .ok (.slice b 0 (n + m) (.kn c)) (if m = 0 then η else η.put b (.live false ((l ++ new) ++ rest.drop m))) := fun new hn => by
  show (if (n + m) * 1 ≤ _ then (if m = 0 then _ else apKn b 0 n 1 m c new (η.f b) η) else _) = _
  rw [if_pos (by omega)]
  by_cases h0 : m = 0
  ·rw [if_pos h0, if_pos h0, h0]; rfl
  ·rw [if_neg h0, if_neg h0, hf]
   show (if n + m ≤ c then (if 0 + n * 1 + m * 1 ≤ (l ++ rest).length then _ else _) else _) = _
   rw [if_pos hc, if_pos (by rw [List.length_append]; omega), show 0 + n * 1 = l.length by omega, setsL_in _ _ _ (by omega), hn]
 have own0 : m = 0 → k = [] → OwnK base η (.slice b 0 n (.kn c)) (n + m) c (l ++ k) := fun h1 h2 => by
  rw [h1, h2, List.append_nil]
  exact ⟨b, rest, rfl, hb, hbn, hl, hr, hf⟩
 rcases hy with ⟨h1, h2, rfl | ⟨b2, off, cap, rfl⟩⟩ | ⟨b2, off, cap, ro, row, rfl, h1, _, h2, h3, h4⟩
 ·exact ⟨_, η, zero, own0 h1 h2, .refl _ _⟩
 ·refine ⟨_, η, ?_, own0 h1 h2, .refl _ _⟩
  rw [apSrc_sl, if_pos rfl]; exact zero
 ·by_cases h0 : m = 0
  ·subst h0
   obtain rfl : k = [] := List.eq_nil_of_length_eq_zero (by omega)
   refine ⟨_, η, ?_, own0 rfl rfl, .refl _ _⟩
   rw [apSrc_sl, if_pos rfl]; exact zero
  ·refine ⟨.slice b 0 (n + m) (.kn c), η.put b (.live false ((l ++ k) ++ rest.drop m)), ?_, ⟨b, rest.drop m, rfl, hb, hbn, by rw [List.length_append]; omega, by rw [List.length_drop]; omega, by show (if b = b then _ else _) = _; rw [if_pos rfl]⟩, .put hb⟩
   rw [apSrc_sl, if_neg h0, h1, rowN_at, if_pos h2, h4]
   have := key k (by omega)
   rw [if_neg h0] at this
   exact this
theorem thenN_appK {base n c m : Nat} {η : HN} {x y : AV} {l k : List AV} {C : Spec} {d : Option Nat} {φ : FN} {kk : FN → HN → Prop} (hx : OwnK base η x n c l) (hy : RdA 1 η y m k) (hc : n + m ≤ c) (hlen : c ≤ 140737488355328)
  (h : ∀ x' η', OwnK base η' x' (n + m) c (l ++ k) → ExtB base η η' → kk (putN d x' φ) η') : thenN C (apSrcN 1 1 x y η) η d kk φ := by
 obtain ⟨x', η', e, o, E⟩ := app_K hx hy hc hlen
 rw [e]
 exact h x' η' o E
theorem RdA.lit {η : HN} {z : AV} {c : Cp} : RdA 1 (η.new (.live false [z])) (.slice η.nx 0 1 c) 1 [z] := .inr ⟨η.nx, 0, c, false, [z], rfl, by show (if η.nx = η.nx then _ else _) = _; rw [if_pos rfl], Nat.lt_succ_self _, Nat.le_refl _, rfl, rfl⟩
end Go.Eng
namespace Go.Proofs.Ytjljolnhmmbkoaa
open Go.Eng Go.Plain
set_option autoImplicit false
set_option maxRecDepth 100000
variable {nat : ∀ [Deep], Nats}
theorem or128 : ∀ x, x < 256 → x ||| 128 = x % 128 + 128 := by decide
def puI (base : Nat) (η0 : HN) (l : List Nat) (u : Nat) (m : Nat) (φ : FN) (η : HN) : Prop := ∃ q done x, m ≤ 9 ∧ done ++ uvF m q = uv u ∧ q * 128 ^ (9 - m) < 18446744073709551616 ∧ done.length + m = 9 ∧ φ 1 = .int .u64 q ∧ φ 5 = x ∧ OwnK base η x (l.length + done.length) (l.length + 10) (u8s (l ++ done)) ∧ ExtB base η0 η
set_option maxHeartbeats 1000000 in
theorem packU_then (U : Usual nat) {η : HN} {y : AV} {l : List Nat} {u : Nat} {Q : AV → HN → Prop} (hy : RdA 1 η y l.length (u8s l)) (hl : l.length ≤ 1099511627776) (hu : u < 18446744073709551616)
  (h : ∀ v η', OwnK η.nx η' v (l.length + (uv u).length) (l.length + 10) (u8s (l ++ uv u)) → ExtB η.nx η η' → Q v η') : ∃ v η', CallN Try.prog nat 59 [y, .int .u64 u] η v η' ∧ Q v η' := by
 refine call_of (PT := pl59) Try.func59 rfl (U 59 (by decide)) ok59 rfl ?_
 have hlen : lenN (.slice 5 1 1) y η = .ok (.int .i64 l.length) η := hy.len (by omega)
 have hc : ¬1 = 0 ∧ l.length + 10 ≤ 140737488355328 := ⟨by decide, by omega⟩
 simp -implicitDefEqProofs (disch := omega) only [go_sem, hlen, if_pos hc]
 have E0 : ExtB η.nx η (η.new (.live false (List.replicate (l.length + 10) (.int .u8 0)))) := .new (Nat.le_refl _)
 have o0 : OwnK η.nx (η.new (.live false (List.replicate (l.length + 10) (.int .u8 0)))) (.slice η.nx 0 0 (.kn (l.length + 10))) 0 (l.length + 10) [] := ⟨η.nx, List.replicate (l.length + 10) (.int .u8 0), rfl, Nat.le_refl _, Nat.lt_succ_self _, rfl, by rw [List.length_replicate]; omega, by show (if η.nx = η.nx then _ else _) = _; rw [if_pos rfl]; rfl⟩
 refine thenN_appK (c := l.length + 10) o0 (hy.ext E0) (by omega) (by omega) fun x1 η1 o1 E1 => ?_
 rw [List.nil_append, Nat.zero_add] at o1
 simp -implicitDefEqProofs (disch := omega) only [go_sem]
 refine wpN_loop (puI η.nx η l u) 9 ⟨u, [], x1, Nat.le_refl _, rfl, by omega, rfl, rfl, rfl, by rw [List.append_nil]; exact o1, E0.trans E1⟩ ?_
 rintro m φ η2 ⟨q, done, x, hm, hd, hq, hdl, p1, p5, o, E⟩
 have hk : (uv u).length = done.length + (uvF m q).length := by rw [← hd, List.length_append]
 have n2 := E.1
 have hqs : q < 18446744073709551616 := by
  have : 1 ≤ 128 ^ (9 - m) := Nat.one_le_pow _ _ (by decide)
  have := Nat.mul_le_mul_left q this
  omega
 by_cases h128 : 128 ≤ q
 ·obtain ⟨m', rfl⟩ : ∃ m', m = m' + 1 := by
   cases m with
   | zero => omega
   | succ m' => exact ⟨m', rfl⟩
  simp -implicitDefEqProofs (disch := omega) only [go_sem, p1, p5]
  refine thenN_appK (c := l.length + 10) (o.ext (.new (Nat.le_refl _))) .lit (by omega) (by omega) fun x3 η3 o3 E3 => ?_
  have hu : uvF (m' + 1) q = (q % 128 + 128) :: uvF m' (q / 128) := by rw [uvF, if_neg (by omega)]
  have e8 : (q % 256 ||| 128) = q % 128 + 128 := by rw [or128 _ (Nat.mod_lt _ (by decide))]; omega
  simp -implicitDefEqProofs (disch := omega) only [go_sem, p1, p5]
  refine ⟨m', Nat.lt_succ_self _, q / 128, done ++ [q % 128 + 128], _, by omega, ?_, ?_, ?_, ?_, rfl, ?_, (E.trans (.new n2)).trans E3⟩
  ·rw [← hd, hu]; simp
  ·have hle : q / 128 * 128 ^ (9 - m') ≤ q * 128 ^ (9 - (m' + 1)) := by
    rw [show 9 - m' = 9 - (m' + 1) + 1 by omega, Nat.pow_succ, Nat.mul_comm (128 ^ (9 - (m' + 1))) 128, ← Nat.mul_assoc]
    exact Nat.mul_le_mul_right _ (Nat.div_mul_le_self q 128)
   omega
  ·rw [List.length_append]; show done.length + 1 + m' = 9; omega
  ·show AV.int .u64 (shrN .u64 q 7) = _
   rw [shr_u64 hqs]
  ·rw [e8] at o3
   have : u8s (l ++ done) ++ [AV.int .u8 (q % 128 + 128)] = u8s (l ++ (done ++ [q % 128 + 128])) := by unfold u8s; simp
   rw [← this, List.length_append, List.length_singleton, ← Nat.add_assoc]
   exact o3
 ·simp -implicitDefEqProofs (disch := omega) only [go_sem, p1, p5]
  have hu : uvF m q = [q] := by
   cases m with
   | zero => rfl
   | succ m' => rw [uvF, if_pos (by omega)]
  refine thenN_appK (c := l.length + 10) (o.ext (.new (Nat.le_refl _))) .lit (by omega) (by omega) fun x3 η3 o3 E3 => ?_
  rw [hu] at hk hd
  simp -implicitDefEqProofs (disch := omega) only [go_sem]
  refine h _ _ ?_ ((E.trans (.new n2)).trans E3)
  have : u8s (l ++ done) ++ [AV.int .u8 q] = u8s (l ++ uv u) := by rw [← hd]; unfold u8s; simp
  rw [← this, hk, List.length_singleton, ← Nat.add_assoc]
  exact o3
end Go.Proofs.Ytjljolnhmmbkoaa
namespace Go.Proofs.Ytjljolnhmmbkoaa
open Go.Eng Go.Plain
set_option autoImplicit false
set_option maxRecDepth 100000
variable {nat : ∀ [Deep], Nats}
theorem xor_ones {a : Nat} (h : a < 18446744073709551616) : a ^^^ 18446744073709551615 = 18446744073709551615 - a := by
 have := congrArg BitVec.toNat (BitVec.xor_allOnes (x := BitVec.ofNat 64 a))
 rw [BitVec.toNat_xor, BitVec.toNat_not, BitVec.toNat_ofNat, BitVec.toNat_allOnes, Nat.mod_eq_of_lt (show a < 2 ^ 64 from h)] at this
 exact this
theorem nneg_big {v : Nat} (h : ¬ v < 9223372036854775808) : nneg .i64 v = false := by rw [nnegD_i64]; exact decide_eq_false h
theorem cvt_neg {v : Nat} (h : ¬ v < 9223372036854775808) (h2 : v < 18446744073709551616) : cvtN .u64 .i64 v = v := by
 unfold cvtN
 rw [nneg_big h]
 have h1 := @res_emod ⟨0, 0⟩ noEnv .u64 (sgn .i64 v)
 have h3 : sgn .i64 v % (modN .u64 : Int) = v := @sgn_emod ⟨0, 0⟩ noEnv .i64 v h2
 rw [h3] at h1
 exact (Int.ofNat.inj h1).symm
theorem shr_neg {v : Nat} (h : ¬ v < 9223372036854775808) (h2 : v < 18446744073709551616) : shrN .i64 v 63 = 18446744073709551615 := by
 unfold shrN
 rw [nneg_big h]
 unfold sgn
 rw [nneg_big h]
 show res .i64 (Int.fdiv (Int.subNatNat v 18446744073709551616) 9223372036854775808) = _
 have e : Int.fdiv (Int.subNatNat v 18446744073709551616) 9223372036854775808 = -1 := by
  rw [Int.subNatNat_eq_coe]
  rw [Int.fdiv_eq_ediv_of_nonneg _ (by decide)]
  omega
 rw [e]; rfl
theorem shr_pos {v : Nat} (h : v < 9223372036854775808) : shrN .i64 v 63 = 0 := by
 unfold shrN
 rw [show nneg .i64 v = true by rw [nnegD_i64]; exact decide_eq_true h]
 show v / 9223372036854775808 = 0
 omega
set_option maxHeartbeats 1000000 in
theorem packI_then (U : Usual nat) {η : HN} {y : AV} {l : List Nat} {u : Nat} {Q : AV → HN → Prop} (hy : RdA 1 η y l.length (u8s l)) (hl : l.length ≤ 1099511627776) (hu : u < 18446744073709551616)
  (h : ∀ v η', OwnK η.nx η' v (l.length + (uv (zz u)).length) (l.length + 10) (u8s (l ++ uv (zz u))) → ExtB η.nx η η' → Q v η') : ∃ v η', CallN Try.prog nat 60 [y, .int .i64 u] η v η' ∧ Q v η' := by
 refine call_of (PT := pl60) Try.func60 rfl (U 60 (by decide)) ok60 rfl ?_
 by_cases h0 : u < 9223372036854775808
 ·have e1 : shlN .u64 u 1 = 2 * u := by show (u * 2 ^ 1) % 18446744073709551616 = _; omega
  have e2 := shr_pos h0
  have e3 : zz u = 2 * u := if_pos h0
  have e4 : (2 * u) ^^^ 0 = 2 * u := Nat.xor_zero _
  simp -implicitDefEqProofs (disch := omega) only [go_sem, e1, e2, e4]
  refine thenN_call (packU_then U hy hl (by omega) fun v η' o E => ?_)
  simp -implicitDefEqProofs (disch := omega) only [go_sem]
  rw [← e3] at o
  exact h v η' o E
 ·have c1 := cvt_neg h0 hu
  have e1 : shlN .u64 u 1 = 2 * u - 18446744073709551616 := by show (u * 2 ^ 1) % 18446744073709551616 = _; omega
  have e2 := shr_neg h0 hu
  have c2 := cvt_neg (v := 18446744073709551615) (by decide) (by decide)
  have e3 : zz u = 2 * (18446744073709551615 - u) + 1 := if_neg h0
  have e4 : (2 * u - 18446744073709551616) ^^^ 18446744073709551615 = 2 * (18446744073709551615 - u) + 1 := by rw [xor_ones (by omega)]; omega
  simp -implicitDefEqProofs (disch := omega) only [go_sem, c1, e1, e2, c2, e4]
  refine thenN_call (packU_then U hy hl (by omega) fun v η' o E => ?_)
  simp -implicitDefEqProofs (disch := omega) only [go_sem]
  rw [← e3] at o
  exact h v η' o E
def ptI (base : Nat) (η0 : HN) (l : List Nat) (u : Nat) (m : Nat) (φ : FN) (η : HN) : Prop := ∃ q done x, m ≤ 9 ∧ done ++ uvF m q = uv u ∧ q * 128 ^ (9 - m) < 18446744073709551616 ∧ done.length + m = 9 ∧ φ 1 = .int .u64 q ∧ φ 5 = x ∧ OwnA 1 base η x (l.length + done.length) (u8s (l ++ done)) ∧ ExtB base η0 η
set_option maxHeartbeats 1000000 in
theorem putU_then (U : Usual nat) {η : HN} {y : AV} {l : List Nat} {u : Nat} {Q : AV → HN → Prop} (hy : RdA 1 η y l.length (u8s l)) (hl : l.length ≤ 1099511627776) (hu : u < 18446744073709551616)
  (h : ∀ v η', OwnA 1 η.nx η' v (l.length + (uv u).length) (u8s (l ++ uv u)) → ExtB η.nx η η' → Q v η') : ∃ v η', CallN Try.prog nat 63 [y, .int .u64 u] η v η' ∧ Q v η' := by
 refine call_of (PT := pl63) Try.func63 rfl (U 63 (by decide)) ok63 rfl ?_
 simp -implicitDefEqProofs (disch := omega) only [go_sem]
 have E0 : ExtB η.nx η (η.new (.live false [])) := .new (Nat.le_refl _)
 refine thenN_app (base := η.nx) (by decide) .new0 (hy.ext E0) (by omega) E0.1 fun x1 η1 o1 E1 => ?_
 rw [List.nil_append, Nat.zero_add] at o1
 simp -implicitDefEqProofs (disch := omega) only [go_sem]
 refine wpN_loop (ptI η.nx η l u) 9 ⟨u, [], x1, Nat.le_refl _, rfl, by omega, rfl, rfl, rfl, by rw [List.append_nil]; exact o1, E0.trans E1⟩ ?_
 rintro m φ η2 ⟨q, done, x, hm, hd, hq, hdl, p1, p5, o, E⟩
 have hk : (uv u).length = done.length + (uvF m q).length := by rw [← hd, List.length_append]
 have n2 := E.1
 have hqs : q < 18446744073709551616 := by
  have : 1 ≤ 128 ^ (9 - m) := Nat.one_le_pow _ _ (by decide)
  have := Nat.mul_le_mul_left q this
  omega
 by_cases h128 : 128 ≤ q
 ·obtain ⟨m', rfl⟩ : ∃ m', m = m' + 1 := by
   cases m with
   | zero => omega
   | succ m' => exact ⟨m', rfl⟩
  simp -implicitDefEqProofs (disch := omega) only [go_sem, p1, p5]
  refine thenN_app (base := η.nx) (by decide) (o.ext (.new (Nat.le_refl _))) .lit (by omega) (by show η.nx ≤ η2.nx + 1; omega) fun x3 η3 o3 E3 => ?_
  have hu : uvF (m' + 1) q = (q % 128 + 128) :: uvF m' (q / 128) := by rw [uvF, if_neg (by omega)]
  simp -implicitDefEqProofs (disch := omega) only [go_sem, p1, p5]
  refine ⟨m', Nat.lt_succ_self _, q / 128, done ++ [q % 128 + 128], _, by omega, ?_, ?_, ?_, rfl, rfl, ?_, (E.trans (.new n2)).trans E3⟩
  ·rw [← hd, hu]; simp
  ·have hle : q / 128 * 128 ^ (9 - m') ≤ q * 128 ^ (9 - (m' + 1)) := by
    rw [show 9 - m' = 9 - (m' + 1) + 1 by omega, Nat.pow_succ, Nat.mul_comm (128 ^ (9 - (m' + 1))) 128, ← Nat.mul_assoc]
    exact Nat.mul_le_mul_right _ (Nat.div_mul_le_self q 128)
   omega
  ·rw [List.length_append]; show done.length + 1 + m' = 9; omega
  ·have : u8s (l ++ done) ++ [AV.int .u8 (q % 128 + 128)] = u8s (l ++ (done ++ [q % 128 + 128])) := by unfold u8s; simp
   rw [← this, List.length_append, List.length_singleton, ← Nat.add_assoc]
   exact o3
 ·simp -implicitDefEqProofs (disch := omega) only [go_sem, p1, p5]
  have hu : uvF m q = [q] := by
   cases m with
   | zero => rfl
   | succ m' => rw [uvF, if_pos (by omega)]
  refine thenN_app (base := η.nx) (by decide) (o.ext (.new (Nat.le_refl _))) .lit (by omega) (by show η.nx ≤ η2.nx + 1; omega) fun x3 η3 o3 E3 => ?_
  rw [hu] at hk hd
  simp -implicitDefEqProofs (disch := omega) only [go_sem]
  refine h _ _ ?_ ((E.trans (.new n2)).trans E3)
  have : u8s (l ++ done) ++ [AV.int .u8 q] = u8s (l ++ uv u) := by rw [← hd]; unfold u8s; simp
  rw [← this, hk, List.length_singleton, ← Nat.add_assoc]
  exact o3
set_option maxHeartbeats 1000000 in
theorem putI_then (U : Usual nat) {η : HN} {y : AV} {l : List Nat} {u : Nat} {Q : AV → HN → Prop} (hy : RdA 1 η y l.length (u8s l)) (hl : l.length ≤ 1099511627776) (hu : u < 18446744073709551616)
  (h : ∀ v η', OwnA 1 η.nx η' v (l.length + (uv (zz u)).length) (u8s (l ++ uv (zz u))) → ExtB η.nx η η' → Q v η') : ∃ v η', CallN Try.prog nat 64 [y, .int .i64 u] η v η' ∧ Q v η' := by
 refine call_of (PT := pl64) Try.func64 rfl (U 64 (by decide)) ok64 rfl ?_
 by_cases h0 : u < 9223372036854775808
 ·have e3 : zz u = 2 * u := if_pos h0
  simp -implicitDefEqProofs (disch := omega) only [go_sem]
  refine thenN_call (putU_then U (u := 2 * u) hy hl (by omega) fun v η' o E => ?_)
  simp -implicitDefEqProofs (disch := omega) only [go_sem]
  rw [← e3] at o
  exact h v η' o E
 ·have e3 : zz u = 2 * (18446744073709551615 - u) + 1 := if_neg h0
  have hlt : ltN .i64 u 0 = true := by unfold ltN; rw [nneg_big h0]; rfl
  have fin : ∀ n, n = zz u → ∃ v η', CallN Try.prog nat 63 [y, .int .u64 n] η v η' ∧ Q v η' := fun n hn => by
   rw [hn]
   exact putU_then U hy hl (zz_lt hu) h
  by_cases h1 : u = 18446744073709551615
  ·subst h1
   simp -implicitDefEqProofs (disch := omega) only [go_sem, hlt, Bool.not_true]
   obtain ⟨v, η', k, q⟩ := fin _ (show 1 = _ from rfl)
   refine thenN_call ⟨v, η', k, ?_⟩
   simp -implicitDefEqProofs (disch := omega) only [go_sem]
   exact q
  ·simp -implicitDefEqProofs (disch := omega) only [go_sem, hlt, Bool.not_true]
   obtain ⟨v, η', k, q⟩ := fin (2 * (18446744073709551616 - (u + 1)) + 1) (by omega)
   refine thenN_call ⟨v, η', k, ?_⟩
   simp -implicitDefEqProofs (disch := omega) only [go_sem]
   exact q
end Go.Proofs.Ytjljolnhmmbkoaa
namespace Go.Proofs.Ytjljolnhmmbkoaa
open Go.Eng Go.Plain
set_option autoImplicit false
set_option maxRecDepth 100000
variable {nat : ∀ [Deep], Nats}
def Stays (η : HN) (mp mb : Nat) (y : AV) (l : List Nat) : Prop := ∀ η' : HN, η.nx ≤ η'.nx → (∀ b, b < η.nx → b ≠ mp → b ≠ mb → η'.f b = η.f b) → RdI .i64 η' y l
def OutAt (base : Nat) (η : HN) (y : AV) (l : List Nat) : Prop := ∃ b, base ≤ b ∧ b < η.nx ∧ MemAt b η y l
theorem MemAt.rd {mb : Nat} {η : HN} {y : AV} {l : List Nat} (h : MemAt mb η y l) (hb : mb < η.nx) : RdI .i64 η y l := by
 refine RdA.toI ?_
 rcases h with ⟨h1, rfl⟩ | ⟨cap, rfl, h2⟩
 ·exact .inl ⟨rfl, rfl, h1⟩
 ·exact .inr ⟨mb, 0, cap, false, _, rfl, h2, hb, by rw [i64s_len]; omega, by rw [Nat.mul_one]; exact i64s_len l, by rw [List.drop_zero, List.take_of_length_le (by rw [i64s_len]; omega)]; rfl⟩
theorem OutAt.rd {base : Nat} {η : HN} {y : AV} {l : List Nat} (h : OutAt base η y l) : RdI .i64 η y l := by
 obtain ⟨b, _, h2, h3⟩ := h
 exact h3.rd h2
theorem OutAt.keep {base : Nat} {η η' : HN} {y : AV} {l : List Nat} (h : OutAt base η y l) (hn : η.nx ≤ η'.nx) (hk : ∀ b, base ≤ b → b < η.nx → η'.f b = η.f b) : OutAt base η' y l := by
 obtain ⟨b, h1, h2, h3⟩ := h
 refine ⟨b, h1, by omega, ?_⟩
 rcases h3 with h3 | ⟨cap, h3, h4⟩
 ·exact .inl h3
 ·exact .inr ⟨cap, h3, (hk b h1 h2).trans h4⟩
def StI (p : PD) (z : PV) (inn ms : List Nat) (T : Nat → Nat) (mp sp : Nat) (yi ys yo ym : AV) (η1 : HN) (m : Nat) (φ : FN) (η : HN) : Prop :=
 ∃ pc s, m = p.code.length - pc ∧ pc ≤ p.code.length ∧ φ 0 = .ptr mp 0 ∧ φ 6 = .ptr sp 0 ∧ φ 7 = .int .i64 pc ∧ StepAt η T sp yi s ys yo ym ∧ KpS T η1 η ∧ SmOk p inn s ∧ goM p inn pc s = stepM p ms inn
theorem KpS.trans {T : Nat → Nat} {η η' η'' : HN} (h : KpS T η η') (k : KpS T η' η'') : KpS T η η'' := ⟨Nat.le_trans h.nx k.nx, fun b hb ht => (k.keep b (Nat.lt_of_lt_of_le hb h.nx) ht).trans (h.keep b hb ht)⟩
set_option maxHeartbeats 2000000 in
theorem step_then (U : Usual nat) {η : HN} {lo hi mp mb ticks : Nat} {z : PV} {p : PD} {ms inn : List Nat} {yi : AV} {Q : AV → HN → Prop} (M : MachAt lo hi η mp mb z p ms ticks) (hf : Fine p) (hc : (checkF p).2 = 0) (hy : Stays η mp mb yi inn) (hin : inn.length ≤ 9223372036854775807 ∧ ∀ n ∈ inn, n < 18446744073709551616) (ht : ticks < 9223372036854775807)
  (hno : fitF p.ins inn = false → Q (.tup [.nilslice, .int .i64 1]) η)
  (hyes : fitF p.ins inn = true → ∀ yo η', MachAt lo hi η' mp mb z p (stepM p ms inn).mems (ticks + 1) → OutAt η.nx η' yo (stepM p ms inn).outs → η.nx ≤ η'.nx → (∀ b, b < η.nx → b ≠ mp → b ≠ mb → η'.f b = η.f b) → Q (.tup [yo, .int .i64 0]) η') :
  ∃ v η', CallN Try.prog nat 25 [.ptr mp 0, yi] η v η' ∧ Q v η' := by
 refine call_of (PT := pl25) Try.func25 rfl (U 25 (by decide)) ok25 rfl ?_
 have h1 := M.held.1
 have h2 := M.at_
 have h3 := M.mat
 have hl := M.len
 have hlt := M.lt
 obtain ⟨y, c1, c2⟩ := M.cells
 have hi0 := hy η (Nat.le_refl _) fun _ _ _ _ => rfl
 have hp0 := M.held.isP
 simp -implicitDefEqProofs (disch := omega) only [go_sem, c1]
 refine thenN_call ⟨_, _, fit_call U η z.z1 yi p.ins inn hp0.ins hi0 hf.ins.1 hin.1, ?_⟩
 cases hfit : fitF p.ins inn with
 | false =>
  simp -implicitDefEqProofs (disch := omega) only [go_sem, Bool.not_false]
  exact hno hfit
 | true =>
  have l3 := rdI_len hp0.slots hf.slots.1
  have l2 := rdI_len hp0.outs hf.outs.1
  have b3 := hf.slots.1
  have b2 := hf.outs.1
  have b6 := hf.code.1
  have q3 : ¬8 = 0 ∧ p.slots.length * 8 ≤ 140737488355328 := ⟨by decide, by omega⟩
  have q2 : ¬8 = 0 ∧ p.outs.length * 8 ≤ 140737488355328 := ⟨by decide, by omega⟩
  have cy : cellsV y = some [y] := RdR.cells (MemAt.rd c2 h3.2.1)
  have ci : cellsV yi = some [yi] := RdR.cells hi0
  have n1 : mp ≠ η.nx + 6 := by omega
  have n2 : mp ≠ η.nx + 13 := by omega
  simp -implicitDefEqProofs (disch := omega) only [go_sem, Bool.not_true, c1, l3, l2, if_pos q3, if_pos q2, cy, ci]
  have hT : ∃ T : Nat → Nat, T = fun b => if b = mb then 3 else if b = η.nx + 6 then 1 else if b = η.nx + 13 then 2 else if b = η.nx + 20 then 4 else 0 := ⟨_, rfl⟩
  obtain ⟨T, hT⟩ := hT
  have t0 : ∀ b, b < η.nx → b ≠ mb → T b = 0 := fun b h4 h5 => by rw [hT]; show (if _ then _ else _) = _; rw [if_neg h5, if_neg (by omega), if_neg (by omega), if_neg (by omega)]
  have t1 : T (η.nx + 6) = 1 := by rw [hT]; show (if _ then _ else _) = _; rw [if_neg (by omega), if_pos rfl]
  have t2 : T (η.nx + 13) = 2 := by rw [hT]; show (if _ then _ else _) = _; rw [if_neg (by omega), if_neg (by omega), if_pos rfl]
  have t3 : T mb = 3 := by rw [hT]; show (if _ then _ else _) = _; rw [if_pos rfl]
  have t4 : T (η.nx + 20) = 4 := by rw [hT]; show (if _ then _ else _) = _; rw [if_neg (by omega), if_neg (by omega), if_neg (by omega), if_pos rfl]
  have tmb : ∀ b, T b = 3 → b = mb := fun b h4 => by
   rw [hT] at h4
   have h4 : (if b = mb then 3 else if b = η.nx + 6 then 1 else if b = η.nx + 13 then 2 else if b = η.nx + 20 then 4 else 0) = 3 := h4
   split at h4
   ·assumption
   ·split at h4
    ·omega
    ·split at h4
     ·omega
     ·split at h4 <;> omega
  have tout : ∀ b, T b = 2 → η.nx ≤ b := fun b h4 => by
   by_cases h5 : η.nx ≤ b
   ·exact h5
   ·by_cases h6 : b = mb
    ·rw [h6, t3] at h4; omega
    ·rw [t0 b (by omega) h6] at h4; omega
  refine wpN_loop (StI p z inn ms T mp (η.nx + 20) yi (.slice (η.nx + 6) 0 p.slots.length (.kn p.slots.length)) (.slice (η.nx + 13) 0 p.outs.length (.kn p.outs.length)) y _) p.code.length ⟨0, zeroS p ms, rfl, Nat.zero_le _, rfl, rfl, rfl, ⟨?_, ⟨t4, ?_⟩, ?_, ?_, ?_⟩, ⟨Nat.le_refl _, fun _ _ _ => rfl⟩, zero_ok ⟨hl, hlt.1⟩ ?_, goM_0⟩ ?_
  ·simp -implicitDefEqProofs (disch := omega) only [go_sem]
  ·show _ < η.nx + 22; omega
  ·exact .inr ⟨η.nx + 6, _, by show _ = AV.slice _ 0 (List.replicate p.slots.length 0).length _; rw [List.length_replicate], by show _ < η.nx + 22; omega, t1, by simp -implicitDefEqProofs (disch := omega) only [go_sem]; unfold i64s zeroS; rw [List.map_replicate]⟩
  ·exact .inr ⟨η.nx + 13, _, by show _ = AV.slice _ 0 (List.replicate p.outs.length 0).length _; rw [List.length_replicate], by show _ < η.nx + 22; omega, t2, by simp -implicitDefEqProofs (disch := omega) only [go_sem]; unfold i64s zeroS; rw [List.map_replicate]⟩
  ·rcases c2 with c2 | ⟨cap, e1, e2⟩
   ·exact .inl c2
   ·exact .inr ⟨mb, cap, e1, by show _ < η.nx + 22; omega, t3, by simp -implicitDefEqProofs (disch := omega) only [go_sem]; exact e2⟩
  ·refine ⟨?_, hin.2⟩
   unfold fitF at hfit
   exact (of_decide_eq_true (Bool.and_eq_true_iff.1 hfit).1).symm
  ·rintro m φ η2 ⟨pc, s, hm, hpc, p0, p6, p7, S, K, ok, hg⟩
   have kn : η.nx + 22 ≤ η2.nx := K.nx
   have kk : ∀ b, b < η.nx → b ≠ mb → η2.f b = η.f b := fun b hb hne => (K.keep b (by show b < η.nx + 22; omega) (t0 b hb hne)).trans (by simp -implicitDefEqProofs (disch := omega) only [go_sem])
   have x1 := (kk mp h2.2 (by omega)).trans c1
   have Hd := M.held.of (η' := η2) (by omega) fun b g1 g2 => kk b (by omega) (by omega)
   have hp2 := Hd.isP
   have hi2 := hy η2 (by omega) fun b g1 _ g2 => kk b g1 g2
   have l6 := rdC_len9 hp2.code (by omega)
   by_cases hlt2 : pc < p.code.length
   ·simp -implicitDefEqProofs (disch := omega) only [go_sem, p0, p6, p7, x1, l6]
    refine thenN_call (do_then U hp2 hf S hi2 hlt2 rfl (check_there hc pc hlt2) ⟨ok.slots.1, ok.outs.1, ok.mems.1, ok.inn.1⟩ ok.slots.2 fun η3 S3 K3 => ?_)
    have gt := nextI_gt (s := s) (check_there hc pc hlt2) hlt2
    simp -implicitDefEqProofs (disch := omega) only [go_sem, p0, p6, p7]
    exact ⟨p.code.length - nextI p.code[pc] pc s, by omega, _, _, rfl, gt.2, p0, p6, rfl, S3, K.trans K3, doI_ok hf ok, (goM_next hc hlt2).trans hg⟩
   ·obtain rfl : pc = p.code.length := by omega
    rw [goM_end (Nat.le_refl _)] at hg
    subst hg
    have sc := S.cells
    have sn : mp ≠ η.nx + 20 := by omega
    simp -implicitDefEqProofs (disch := omega) only [go_sem, p0, p6, p7, x1, l6, sc]
    have pf : ∀ b x, b ≠ mp → (η2.put mp x).f b = η2.f b := fun b x hb => by show (if b = mp then _ else _) = _; rw [if_neg hb]
    refine hyes hfit _ _ ⟨Hd.of (Nat.le_refl _) fun b g1 g2 => pf b _ (by omega), ⟨h2.1, by show mp < η2.nx; omega⟩, ⟨h3.1, by show mb < η2.nx; omega, h3.2.2⟩, ⟨y, by show (if mp = mp then _ else _) = _; rw [if_pos rfl], ?_⟩, ok.mems.1, ok.mems.2, by omega⟩ ?_ (by show η.nx ≤ η2.nx; omega) fun b g1 g2 g3 => (pf b _ g2).trans (kk b g1 g3)
    ·rcases S.mems with g | ⟨b, cap, g1, g2, g3, g4⟩
     ·exact .inl g
     ·obtain rfl := tmb b g3
      exact .inr ⟨cap, g1, (pf b _ h3.2.2).trans g4⟩
    ·rcases S.outs with g | ⟨b, cap, g1, g2, g3, g4⟩
     ·exact ⟨η.nx + 13, by omega, by show _ < η2.nx; omega, .inl g⟩
     ·have := tout b g3
      exact ⟨b, this, g2, .inr ⟨cap, g1, (pf b _ (by omega)).trans g4⟩⟩
end Go.Proofs.Ytjljolnhmmbkoaa
namespace Go.Proofs.Ytjljolnhmmbkoaa
open Go.Eng Go.Plain
set_option autoImplicit false
set_option maxRecDepth 100000
variable {nat : ∀ [Deep], Nats}
theorem ticks_call (U : Usual nat) {η : HN} {lo hi mp mb ticks : Nat} {z : PV} {p : PD} {ms : List Nat} (M : MachAt lo hi η mp mb z p ms ticks) : CallN Try.prog nat 28 [.ptr mp 0] η (.int .i64 ticks) η := by
 have : ∃ v η', CallN Try.prog nat 28 [.ptr mp 0] η v η' ∧ v = .int .i64 ticks ∧ η' = η := by
  refine call_of (PT := pl28) Try.func28 rfl (U 28 (by decide)) ok28 rfl ?_
  obtain ⟨y, c1, c2⟩ := M.cells
  simp -implicitDefEqProofs (disch := omega) only [go_sem, c1]
 obtain ⟨v, η', k, rfl, rfl⟩ := this
 exact k
theorem _root_.Go.Eng.OwnK.mono {base base' n c : Nat} {η : HN} {x : AV} {l : List AV} (h : OwnK base η x n c l) (hb : base' ≤ base) : OwnK base' η x n c l := by
 obtain ⟨b, rest, h0, h1, h2⟩ := h
 exact ⟨b, rest, h0, by omega, h2⟩
theorem nums_snoc (l : List Nat) (i : Nat) (h : i < l.length) : nums (l.take (i + 1)) = nums (l.take i) ++ uv (zz l[i]) := by
 rw [← List.take_append_getElem h, nums_app]; simp [nums]
def SaI (η0 : HN) (t : Nat) (y : AV) (ms : List Nat) (m : Nat) (φ : FN) (η : HN) : Prop := ∃ i x, m = ms.length - i ∧ i ≤ ms.length ∧ φ 3 = x ∧ φ 23 = y ∧ φ 24 = .int .i64 ms.length ∧ φ 25 = .int .i64 i ∧ (∃ c, OwnK η0.nx η x (uv t ++ uv ms.length ++ nums (ms.take i)).length c (u8s (uv t ++ uv ms.length ++ nums (ms.take i)))) ∧ ExtB η0.nx η0 η
set_option maxHeartbeats 1000000 in
theorem state_own (U : Usual nat) {η : HN} {lo hi mp mb ticks : Nat} {z : PV} {p : PD} {ms : List Nat} {Q : AV → HN → Prop} (M : MachAt lo hi η mp mb z p ms ticks) (hm : ms.length ≤ 1000000)
  (h : ∀ v η' c, OwnK η.nx η' v (stateB ticks ms).length c (u8s (stateB ticks ms)) → ExtB η.nx η η' → Q v η') : ∃ v η', CallN Try.prog nat 29 [.ptr mp 0] η v η' ∧ Q v η' := by
 refine call_of (PT := pl29) Try.func29 rfl (U 29 (by decide)) ok29 rfl ?_
 obtain ⟨y, c1, c2⟩ := M.cells
 have h2 := M.at_
 have h3 := M.mat
 have hlt := M.lt
 have hc : cvtN .u64 .i64 ticks = ticks := by
  by_cases h9 : ticks < 9223372036854775808
  ·rw [cvt_i64 h9]; exact Nat.mod_eq_of_lt hlt.2
  ·exact cvt_neg h9 hlt.2
 simp -implicitDefEqProofs (disch := omega) only [go_sem, c1, hc]
 refine thenN_call (packU_then U (l := []) (.inl ⟨rfl, rfl, .inl rfl⟩) (by simp) hlt.2 fun v1 η1 o1 E1 => ?_)
 rw [List.nil_append] at o1
 have x1 := (E1.2 _ h2.2).trans c1
 have ly := rdI_len (MemAt.rd c2 h3.2.1) (by omega)
 simp -implicitDefEqProofs (disch := omega) only [go_sem, x1, ly]
 have u1 := uv_len ticks
 have r1 : RdA 1 η1 v1 (uv ticks).length (u8s (uv ticks)) := by
  have := o1.rd
  rw [List.length_nil, Nat.zero_add] at this
  exact this
 refine thenN_call (packU_then U (l := uv ticks) r1 (by omega) (by omega) fun v2 η2 o2 E2 => ?_)
 have F2 := extT E1 E2
 have x2 := (F2.2 _ h2.2).trans c1
 simp -implicitDefEqProofs (disch := omega) only [go_sem, x2, ly]
 have u2 := uv_len ms.length
 have r2 : ∃ c, OwnK η.nx η2 v2 (uv ticks ++ uv ms.length ++ nums (ms.take 0)).length c (u8s (uv ticks ++ uv ms.length ++ nums (ms.take 0))) := by
  have := o2.mono E1.1
  rw [← List.length_append] at this
  rw [List.take_zero, show nums [] = [] from rfl, List.append_nil]
  exact ⟨_, this⟩
 refine wpN_loop (SaI η ticks y ms) ms.length ⟨0, v2, rfl, Nat.zero_le _, rfl, rfl, rfl, rfl, r2, F2⟩ ?_
 rintro m φ η3 ⟨i, x, hmm, hi, p3, p23, p24, p25, ⟨c3, r3⟩, F3⟩
 by_cases hlt2 : i < ms.length
 ·have c3 : MemAt mb η3 y ms := by
   rcases c2 with c2 | ⟨cap, e1, e2⟩
   ·exact .inl c2
   ·exact .inr ⟨cap, e1, (F3.2 _ h3.2.1).trans e2⟩
  have n3 := F3.1
  obtain ⟨b, off, cap, ro, row, ye, hb, hbn, hr⟩ := (MemAt.rd c3 (by omega)).at hlt2
  rw [ye] at p23
  simp -implicitDefEqProofs (disch := omega) only [go_sem, p3, p23, p24, p25, hb, hr]
  have u3 := nums_len (ms.take i)
  rw [List.length_take] at u3
  have u4 := uv_len (zz ms[i])
  refine thenN_call (packI_then U (l := uv ticks ++ uv ms.length ++ nums (ms.take i)) r3.rd (by rw [List.length_append, List.length_append]; omega) (hlt.1 _ (List.getElem_mem hlt2)) fun v4 η4 o4 E4 => ?_)
  simp -implicitDefEqProofs (disch := omega) only [go_sem, p25]
  refine ⟨ms.length - (i + 1), by omega, i + 1, _, rfl, by omega, rfl, ye ▸ p23, p24, rfl, ?_, extT F3 E4⟩
  have := o4.mono F3.1
  rw [← List.length_append, List.append_assoc, ← nums_snoc _ _ hlt2] at this
  exact ⟨_, this⟩
 ·obtain rfl : i = ms.length := by omega
  simp -implicitDefEqProofs (disch := omega) only [go_sem, p3, p23, p24, p25]
  rw [List.take_length] at r3
  exact h _ _ _ r3 F3
theorem state_then (U : Usual nat) {η : HN} {lo hi mp mb ticks : Nat} {z : PV} {p : PD} {ms : List Nat} {Q : AV → HN → Prop} (M : MachAt lo hi η mp mb z p ms ticks) (hm : ms.length ≤ 1000000)
  (h : ∀ v η', RdA 1 η' v (stateB ticks ms).length (u8s (stateB ticks ms)) → ExtB η.nx η η' → Q v η') : ∃ v η', CallN Try.prog nat 29 [.ptr mp 0] η v η' ∧ Q v η' :=
 state_own U M hm fun v η' _ o E => h v η' o.rd E
theorem copym_then (U : Usual nat) {η : HN} {lo hi mp mb ticks : Nat} {z : PV} {p : PD} {ms : List Nat} {Q : AV → HN → Prop} (M : MachAt lo hi η mp mb z p ms ticks) (hf : Fine p)
  (h : ∀ mp' mb' η', MachAt lo hi η' mp' mb' z p ms ticks → η.nx ≤ mp' → η.nx ≤ mb' → ExtB η.nx η η' → Q (.ptr mp' 0) η') : ∃ v η', CallN Try.prog nat 39 [.ptr mp 0] η v η' ∧ Q v η' := by
 refine call_of (PT := pl39) Try.func39 rfl (U 39 (by decide)) ok39 rfl ?_
 obtain ⟨y, c1, c2⟩ := M.cells
 have h1 := M.held.1
 have h2 := M.at_
 have h3 := M.mat
 have hl := M.len
 have b4 := hf.mems.1
 have ry : RdA 1 η y ms.length (i64s ms) := by
  have := RdI.toA (MemAt.rd c2 h3.2.1)
  exact this
 simp -implicitDefEqProofs (disch := omega) only [go_sem, c1]
 have E0 : ExtB η.nx η (η.at_ (η.nx + 16)) := (ExtB.refl _ _).at_ (by omega)
 refine dE_call (clone71_then U (ry.ext E0) (by omega) fun v η' o E => ?_)
 have E' : ExtB η.nx η η' := extT E0 E
 have x1 := (E'.2 _ h2.2).trans c1
 have gn : η.nx + 16 ≤ η'.nx := E.1
 have cv := OwnA.cells1 o
 simp -implicitDefEqProofs (disch := omega) only [go_sem, x1, c1, cv]
 generalize hX : BN.live false [z.z1, z.z2, z.z3, z.z4, z.z5, z.z6, v, .int .i64 ticks] = X
 have pf : ∀ b, b ≠ η.nx + 14 → (((η'.at_ (η.nx + 14)).new X).at_ η'.nx).f b = η'.f b := fun b hb => by show (if b = η.nx + 14 then _ else _) = _; rw [if_neg hb]; rfl
 have po : (((η'.at_ (η.nx + 14)).new X).at_ η'.nx).f (η.nx + 14) = X := by show (if η.nx + 14 = η.nx + 14 then _ else _) = _; rw [if_pos rfl]
 have EF : ExtB η.nx η (((η'.at_ (η.nx + 14)).new X).at_ η'.nx) := ⟨E'.1, fun b hb => (pf b (by omega)).trans (E'.2 b hb)⟩
 obtain ⟨q0, ⟨rfl, q1⟩ | ⟨b, q1, q2, ⟨rfl, q3, _⟩ | ⟨rfl, q3⟩⟩⟩ := o
 ·exact h (η.nx + 14) (η.nx + 15) _ ⟨M.held.of EF.1 fun b g1 g2 => EF.2 b (by omega), ⟨by omega, by show _ < η'.nx; omega⟩, ⟨by omega, by show _ < η'.nx; omega, by omega⟩, ⟨_, po.trans hX.symm, .inl ⟨.inl rfl, List.eq_nil_of_length_eq_zero q1⟩⟩, M.len, M.lt⟩ (by omega) (by omega) EF
 ·exact h (η.nx + 14) (η.nx + 15) _ ⟨M.held.of EF.1 fun b g1 g2 => EF.2 b (by omega), ⟨by omega, by show _ < η'.nx; omega⟩, ⟨by omega, by show _ < η'.nx; omega, by omega⟩, ⟨_, po.trans hX.symm, .inl ⟨.inr ⟨_, _, _, rfl⟩, List.eq_nil_of_length_eq_zero q3⟩⟩, M.len, M.lt⟩ (by omega) (by omega) EF
 ·have q1 : η.nx + 16 ≤ b := q1
  exact h (η.nx + 14) b _ ⟨M.held.of EF.1 fun b g1 g2 => EF.2 b (by omega), ⟨by omega, by show _ < η'.nx; omega⟩, ⟨by omega, q2, by omega⟩, ⟨_, po.trans hX.symm, .inr ⟨_, rfl, (pf b (by omega)).trans q3⟩⟩, M.len, M.lt⟩ (by omega) (by omega) EF
end Go.Proofs.Ytjljolnhmmbkoaa
