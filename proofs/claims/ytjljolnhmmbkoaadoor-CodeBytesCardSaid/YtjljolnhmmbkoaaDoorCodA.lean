/- What is proved: leaves that seat D's walks share. numbers written as bytes. numbers that may be below 0 as bytes; the document's own writing of numbers. numbers read out of bytes. numbers read out of bytes by the document's own reader. readers of numbers, made and asked. numbers read one after another. a program's bytes, read back, are the program (chapter 14). Conditions: as each theorem says. -/
import Derived.Test.YtjljolnhmmbkoaaDoorFacts
import Derived.Test.YtjljolnhmmbkoaaDoorWM
import Derived.Test.YtjljolnhmmbkoaaDoorPlain
set_option linter.unusedVariables false
set_option linter.unusedSimpArgs false
set_option linter.unusedSectionVars false
namespace Go.Proofs.YtjljolnhmmbkoaaDoor
open Go.Eng
/-- all functions but awake, strconv.Itoa, strings.Join and those without bodies are walked -/
def Usual (nat : ∀ [Deep], Nats) : Prop := ∀ f : Nat, f ∉ [8, 39, 40, 45, 64, 68, 69, 70, 71, 72] → ∀ [Deep], nat f = none
theorem shr_u64 {x k : Nat} (h : x < 18446744073709551616) : shrN .u64 x k = x / 2 ^ k := by
  have h1 : nneg .u64 x = true := ble_true.2 (show Nat.succ x ≤ 18446744073709551616 from h)
  unfold shrN
  rw [h1]; rfl
end Go.Proofs.YtjljolnhmmbkoaaDoor
namespace Go.Eng
set_option autoImplicit false
/-- a slice of bytes with room to grow where it lies -/
def OwnK (base : Nat) (η : HN) (x : AV) (n c : Nat) (l : List AV) : Prop := ∃ b rest, x = .slice b 0 n (.kn c) ∧ base ≤ b ∧ b < η.nx ∧ l.length = n ∧ n + rest.length = c ∧ η.f b = .live false (l ++ rest)
theorem OwnK.rd {base n c : Nat} {η : HN} {x : AV} {l : List AV} (h : OwnK base η x n c l) : RdA 1 η x n l := by
  obtain ⟨b, rest, rfl, _, h1, h2, h3, h4⟩ := h
  exact .inr ⟨b, 0, _, false, _, rfl, h4, h1, by rw [List.length_append]; omega, by omega, by rw [List.drop_zero, List.take_append_of_le_length (by omega), List.take_of_length_le (by omega)]⟩
theorem OwnK.ext {base n c : Nat} {η η' : HN} {x : AV} {l : List AV} (h : OwnK base η x n c l) (e : ExtB η.nx η η') : OwnK base η' x n c l := by
  obtain ⟨b, rest, h0, hb, h1, h2, h3, h4⟩ := h
  exact ⟨b, rest, h0, hb, by have := e.1; omega, h2, h3, (e.2 b h1).trans h4⟩
theorem setsL_in : ∀ (k l r : List AV), k.length ≤ r.length → setsL (l ++ r) l.length k = (l ++ k) ++ r.drop k.length
  | [], l, r, _ => by simp [setsL]
  | a :: k, l, [], h => by simp at h
  | a :: k, l, b :: r, h => by
    have e : (l ++ b :: r).set l.length a = (l ++ [a]) ++ r := by rw [List.set_append_right _ _ (Nat.le_refl _), Nat.sub_self]; simp
    show setsL ((l ++ b :: r).set l.length a) (l.length + 1) k = _
    rw [e, show l.length + 1 = (l ++ [a]).length by simp, setsL_in k (l ++ [a]) r (by simpa using h)]
    simp
theorem app_K {base n c m : Nat} {η : HN} {x y : AV} {l k : List AV} (hx : OwnK base η x n c l) (hy : RdA 1 η y m k) (hc : n + m ≤ c) (hlen : c ≤ 140737488355328) :
    ∃ x' η', apSrcN 1 1 x y η = .ok x' η' ∧ OwnK base η' x' (n + m) c (l ++ k) ∧ ExtB base η η' := by
  obtain ⟨b, rest, rfl, hb, hbn, hl, hr, hf⟩ := hx
  have zero : apN 1 1 (.slice b 0 n (.kn c)) 0 [] η = .ok (.slice b 0 n (.kn c)) η := by
    show (if (n + 0) * 1 ≤ _ then (if 0 = 0 then _ else _) else _) = _
    rw [if_pos (by omega), if_pos rfl]
  have key : ∀ new : List AV, new.length = m → apN 1 1 (.slice b 0 n (.kn c)) m new η = .ok (.slice b 0 (n + m) (.kn c)) (if m = 0 then η else η.put b (.live false ((l ++ new) ++ rest.drop m))) := fun new hn => by
    show (if (n + m) * 1 ≤ _ then (if m = 0 then _ else apKn b 0 n 1 m c new (η.f b) η) else _) = _
    rw [if_pos (by omega)]
    by_cases h0 : m = 0
    · rw [if_pos h0, if_pos h0, h0]; rfl
    · rw [if_neg h0, if_neg h0, hf]
      show (if n + m ≤ c then (if 0 + n * 1 + m * 1 ≤ (l ++ rest).length then _ else _) else _) = _
      rw [if_pos hc, if_pos (by rw [List.length_append]; omega), show 0 + n * 1 = l.length by omega, setsL_in _ _ _ (by omega), hn]
  have own0 : m = 0 → k = [] → OwnK base η (.slice b 0 n (.kn c)) (n + m) c (l ++ k) := fun h1 h2 => by
    rw [h1, h2, List.append_nil]
    exact ⟨b, rest, rfl, hb, hbn, hl, hr, hf⟩
  rcases hy with ⟨h1, h2, rfl | ⟨b2, off, cap, rfl⟩⟩ | ⟨b2, off, cap, ro, row, rfl, h1, _, h2, h3, h4⟩
  · exact ⟨_, η, zero, own0 h1 h2, .refl _ _⟩
  · refine ⟨_, η, ?_, own0 h1 h2, .refl _ _⟩
    rw [apSrc_sl, if_pos rfl]; exact zero
  · by_cases h0 : m = 0
    · subst h0
      obtain rfl : k = [] := List.eq_nil_of_length_eq_zero (by omega)
      refine ⟨_, η, ?_, own0 rfl rfl, .refl _ _⟩
      rw [apSrc_sl, if_pos rfl]; exact zero
    · refine ⟨.slice b 0 (n + m) (.kn c), η.put b (.live false ((l ++ k) ++ rest.drop m)), ?_, ⟨b, rest.drop m, rfl, hb, hbn, by rw [List.length_append]; omega, by rw [List.length_drop]; omega, by show (if b = b then _ else _) = _; rw [if_pos rfl]⟩, .put hb⟩
      rw [apSrc_sl, if_neg h0, h1, rowN_at, if_pos h2, h4]
      have := key k (by omega)
      rw [if_neg h0] at this
      exact this
theorem thenN_appK {base n c m : Nat} {η : HN} {x y : AV} {l k : List AV} {C : Spec} {d : Option Nat} {φ : FN} {kk : FN → HN → Prop} (hx : OwnK base η x n c l) (hy : RdA 1 η y m k) (hc : n + m ≤ c) (hlen : c ≤ 140737488355328)
    (h : ∀ x' η', OwnK base η' x' (n + m) c (l ++ k) → ExtB base η η' → kk (putN d x' φ) η') : thenN C (apSrcN 1 1 x y η) η d kk φ := by
  obtain ⟨x', η', e, o, E⟩ := app_K hx hy hc hlen
  rw [e]
  exact h x' η' o E
/-- one cell in a block of its own -/
theorem RdA.lit {η : HN} {z : AV} {c : Cp} : RdA 1 (η.new (.live false [z])) (.slice η.nx 0 1 c) 1 [z] := .inr ⟨η.nx, 0, c, false, [z], rfl, by show (if η.nx = η.nx then _ else _) = _; rw [if_pos rfl], Nat.lt_succ_self _, Nat.le_refl _, rfl, rfl⟩
end Go.Eng
namespace Go.Proofs.YtjljolnhmmbkoaaDoor
open Go.Eng Go.Plain
set_option autoImplicit false
set_option maxRecDepth 100000
variable {nat : ∀ [Deep], Nats}
theorem or128 : ∀ x, x < 256 → x ||| 128 = x % 128 + 128 := by decide
def puI (base : Nat) (η0 : HN) (l : List Nat) (u : Nat) (m : Nat) (φ : FN) (η : HN) : Prop := ∃ q done x, m ≤ 9 ∧ done ++ uvF m q = uv u ∧ q * 128 ^ (9 - m) < 18446744073709551616 ∧ done.length + m = 9 ∧ φ 1 = .int .u64 q ∧ φ 5 = x ∧ OwnK base η x (l.length + done.length) (l.length + 10) (u8s (l ++ done)) ∧ ExtB base η0 η
set_option maxHeartbeats 1000000 in
theorem packU_then (U : Usual nat) {η : HN} {y : AV} {l : List Nat} {u : Nat} {Q : AV → HN → Prop} (hy : RdA 1 η y l.length (u8s l)) (hl : l.length ≤ 1099511627776) (hu : u < 18446744073709551616)
    (h : ∀ v η', OwnK η.nx η' v (l.length + (uv u).length) (l.length + 10) (u8s (l ++ uv u)) → ExtB η.nx η η' → Q v η') : ∃ v η', CallN Tryd.prog nat 51 [y, .int .u64 u] η v η' ∧ Q v η' := by
  refine call_of (PT := pl51) Tryd.func51 rfl (U 51 (by decide)) ok51 rfl ?_
  have hlen : lenN (.slice 5 1 1) y η = .ok (.int .i64 l.length) η := hy.len (by omega)
  have hc : ¬1 = 0 ∧ l.length + 10 ≤ 140737488355328 := ⟨by decide, by omega⟩
  simp -implicitDefEqProofs (disch := omega) only [go_sem, hlen, if_pos hc]
  have E0 : ExtB η.nx η (η.new (.live false (List.replicate (l.length + 10) (.int .u8 0)))) := .new (Nat.le_refl _)
  have o0 : OwnK η.nx (η.new (.live false (List.replicate (l.length + 10) (.int .u8 0)))) (.slice η.nx 0 0 (.kn (l.length + 10))) 0 (l.length + 10) [] := ⟨η.nx, List.replicate (l.length + 10) (.int .u8 0), rfl, Nat.le_refl _, Nat.lt_succ_self _, rfl, by rw [List.length_replicate]; omega, by show (if η.nx = η.nx then _ else _) = _; rw [if_pos rfl]; rfl⟩
  refine thenN_appK (c := l.length + 10) o0 (hy.ext E0) (by omega) (by omega) fun x1 η1 o1 E1 => ?_
  rw [List.nil_append, Nat.zero_add] at o1
  simp -implicitDefEqProofs (disch := omega) only [go_sem]
  refine wpN_loop (puI η.nx η l u) 9 ⟨u, [], x1, Nat.le_refl _, rfl, by omega, rfl, rfl, rfl, by rw [List.append_nil]; exact o1, E0.trans E1⟩ ?_
  rintro m φ η2 ⟨q, done, x, hm, hd, hq, hdl, p1, p5, o, E⟩
  have hk : (uv u).length = done.length + (uvF m q).length := by rw [← hd, List.length_append]
  have n2 := E.1
  have hqs : q < 18446744073709551616 := by
    have : 1 ≤ 128 ^ (9 - m) := Nat.one_le_pow _ _ (by decide)
    have := Nat.mul_le_mul_left q this
    omega
  by_cases h128 : 128 ≤ q
  · obtain ⟨m', rfl⟩ : ∃ m', m = m' + 1 := by
      cases m with
      | zero => omega
      | succ m' => exact ⟨m', rfl⟩
    simp -implicitDefEqProofs (disch := omega) only [go_sem, p1, p5]
    refine thenN_appK (c := l.length + 10) (o.ext (.new (Nat.le_refl _))) .lit (by omega) (by omega) fun x3 η3 o3 E3 => ?_
    have hu : uvF (m' + 1) q = (q % 128 + 128) :: uvF m' (q / 128) := by rw [uvF, if_neg (by omega)]
    have e8 : (q % 256 ||| 128) = q % 128 + 128 := by rw [or128 _ (Nat.mod_lt _ (by decide))]; omega
    simp -implicitDefEqProofs (disch := omega) only [go_sem, p1, p5]
    refine ⟨m', Nat.lt_succ_self _, q / 128, done ++ [q % 128 + 128], _, by omega, ?_, ?_, ?_, ?_, rfl, ?_, (E.trans (.new n2)).trans E3⟩
    · rw [← hd, hu]; simp
    · have hle : q / 128 * 128 ^ (9 - m') ≤ q * 128 ^ (9 - (m' + 1)) := by
        rw [show 9 - m' = 9 - (m' + 1) + 1 by omega, Nat.pow_succ, Nat.mul_comm (128 ^ (9 - (m' + 1))) 128, ← Nat.mul_assoc]
        exact Nat.mul_le_mul_right _ (Nat.div_mul_le_self q 128)
      omega
    · rw [List.length_append]; show done.length + 1 + m' = 9; omega
    · show AV.int .u64 (shrN .u64 q 7) = _
      rw [shr_u64 hqs]
    · rw [e8] at o3
      have : u8s (l ++ done) ++ [AV.int .u8 (q % 128 + 128)] = u8s (l ++ (done ++ [q % 128 + 128])) := by unfold u8s; simp
      rw [← this, List.length_append, List.length_singleton, ← Nat.add_assoc]
      exact o3
  · simp -implicitDefEqProofs (disch := omega) only [go_sem, p1, p5]
    have hu : uvF m q = [q] := by
      cases m with
      | zero => rfl
      | succ m' => rw [uvF, if_pos (by omega)]
    refine thenN_appK (c := l.length + 10) (o.ext (.new (Nat.le_refl _))) .lit (by omega) (by omega) fun x3 η3 o3 E3 => ?_
    rw [hu] at hk hd
    simp -implicitDefEqProofs (disch := omega) only [go_sem]
    refine h _ _ ?_ ((E.trans (.new n2)).trans E3)
    have : u8s (l ++ done) ++ [AV.int .u8 q] = u8s (l ++ uv u) := by rw [← hd]; unfold u8s; simp
    rw [← this, hk, List.length_singleton, ← Nat.add_assoc]
    exact o3
end Go.Proofs.YtjljolnhmmbkoaaDoor
namespace Go.Proofs.YtjljolnhmmbkoaaDoor
open Go.Eng Go.Plain
set_option autoImplicit false
set_option maxRecDepth 100000
variable {nat : ∀ [Deep], Nats}
theorem xor_ones {a : Nat} (h : a < 18446744073709551616) : a ^^^ 18446744073709551615 = 18446744073709551615 - a := by
  have := congrArg BitVec.toNat (BitVec.xor_allOnes (x := BitVec.ofNat 64 a))
  rw [BitVec.toNat_xor, BitVec.toNat_not, BitVec.toNat_ofNat, BitVec.toNat_allOnes, Nat.mod_eq_of_lt (show a < 2 ^ 64 from h)] at this
  exact this
theorem nneg_big {v : Nat} (h : ¬ v < 9223372036854775808) : nneg .i64 v = false := by rw [nnegD_i64]; exact decide_eq_false h
theorem cvt_neg {v : Nat} (h : ¬ v < 9223372036854775808) (h2 : v < 18446744073709551616) : cvtN .u64 .i64 v = v := by
  unfold cvtN
  rw [nneg_big h]
  have h1 := @res_emod ⟨0, 0⟩ noEnv .u64 (sgn .i64 v)
  have h3 : sgn .i64 v % (modN .u64 : Int) = v := @sgn_emod ⟨0, 0⟩ noEnv .i64 v h2
  rw [h3] at h1
  exact (Int.ofNat.inj h1).symm
theorem shr_neg {v : Nat} (h : ¬ v < 9223372036854775808) (h2 : v < 18446744073709551616) : shrN .i64 v 63 = 18446744073709551615 := by
  unfold shrN
  rw [nneg_big h]
  unfold sgn
  rw [nneg_big h]
  show res .i64 (Int.fdiv (Int.subNatNat v 18446744073709551616) 9223372036854775808) = _
  have e : Int.fdiv (Int.subNatNat v 18446744073709551616) 9223372036854775808 = -1 := by
    rw [Int.subNatNat_eq_coe]
    rw [Int.fdiv_eq_ediv_of_nonneg _ (by decide)]
    omega
  rw [e]; rfl
theorem shr_pos {v : Nat} (h : v < 9223372036854775808) : shrN .i64 v 63 = 0 := by
  unfold shrN
  rw [show nneg .i64 v = true by rw [nnegD_i64]; exact decide_eq_true h]
  show v / 9223372036854775808 = 0
  omega
set_option maxHeartbeats 1000000 in
theorem packI_then (U : Usual nat) {η : HN} {y : AV} {l : List Nat} {u : Nat} {Q : AV → HN → Prop} (hy : RdA 1 η y l.length (u8s l)) (hl : l.length ≤ 1099511627776) (hu : u < 18446744073709551616)
    (h : ∀ v η', OwnK η.nx η' v (l.length + (uv (zz u)).length) (l.length + 10) (u8s (l ++ uv (zz u))) → ExtB η.nx η η' → Q v η') : ∃ v η', CallN Tryd.prog nat 52 [y, .int .i64 u] η v η' ∧ Q v η' := by
  refine call_of (PT := pl52) Tryd.func52 rfl (U 52 (by decide)) ok52 rfl ?_
  by_cases h0 : u < 9223372036854775808
  · have e1 : shlN .u64 u 1 = 2 * u := by show (u * 2 ^ 1) % 18446744073709551616 = _; omega
    have e2 := shr_pos h0
    have e3 : zz u = 2 * u := if_pos h0
    have e4 : (2 * u) ^^^ 0 = 2 * u := Nat.xor_zero _
    simp -implicitDefEqProofs (disch := omega) only [go_sem, e1, e2, e4]
    refine thenN_call (packU_then U hy hl (by omega) fun v η' o E => ?_)
    simp -implicitDefEqProofs (disch := omega) only [go_sem]
    rw [← e3] at o
    exact h v η' o E
  · have c1 := cvt_neg h0 hu
    have e1 : shlN .u64 u 1 = 2 * u - 18446744073709551616 := by show (u * 2 ^ 1) % 18446744073709551616 = _; omega
    have e2 := shr_neg h0 hu
    have c2 := cvt_neg (v := 18446744073709551615) (by decide) (by decide)
    have e3 : zz u = 2 * (18446744073709551615 - u) + 1 := if_neg h0
    have e4 : (2 * u - 18446744073709551616) ^^^ 18446744073709551615 = 2 * (18446744073709551615 - u) + 1 := by rw [xor_ones (by omega)]; omega
    simp -implicitDefEqProofs (disch := omega) only [go_sem, c1, e1, e2, c2, e4]
    refine thenN_call (packU_then U hy hl (by omega) fun v η' o E => ?_)
    simp -implicitDefEqProofs (disch := omega) only [go_sem]
    rw [← e3] at o
    exact h v η' o E
def ptI (base : Nat) (η0 : HN) (l : List Nat) (u : Nat) (m : Nat) (φ : FN) (η : HN) : Prop := ∃ q done x, m ≤ 9 ∧ done ++ uvF m q = uv u ∧ q * 128 ^ (9 - m) < 18446744073709551616 ∧ done.length + m = 9 ∧ φ 1 = .int .u64 q ∧ φ 5 = x ∧ OwnA 1 base η x (l.length + done.length) (u8s (l ++ done)) ∧ ExtB base η0 η
set_option maxHeartbeats 1000000 in
theorem putU_then (U : Usual nat) {η : HN} {y : AV} {l : List Nat} {u : Nat} {Q : AV → HN → Prop} (hy : RdA 1 η y l.length (u8s l)) (hl : l.length ≤ 1099511627776) (hu : u < 18446744073709551616)
    (h : ∀ v η', OwnA 1 η.nx η' v (l.length + (uv u).length) (u8s (l ++ uv u)) → ExtB η.nx η η' → Q v η') : ∃ v η', CallN Tryd.prog nat 42 [y, .int .u64 u] η v η' ∧ Q v η' := by
  refine call_of (PT := pl42) Tryd.func42 rfl (U 42 (by decide)) ok42 rfl ?_
  simp -implicitDefEqProofs (disch := omega) only [go_sem]
  have E0 : ExtB η.nx η (η.new (.live false [])) := .new (Nat.le_refl _)
  refine thenN_app (base := η.nx) (by decide) .new0 (hy.ext E0) (by omega) E0.1 fun x1 η1 o1 E1 => ?_
  rw [List.nil_append, Nat.zero_add] at o1
  simp -implicitDefEqProofs (disch := omega) only [go_sem]
  refine wpN_loop (ptI η.nx η l u) 9 ⟨u, [], x1, Nat.le_refl _, rfl, by omega, rfl, rfl, rfl, by rw [List.append_nil]; exact o1, E0.trans E1⟩ ?_
  rintro m φ η2 ⟨q, done, x, hm, hd, hq, hdl, p1, p5, o, E⟩
  have hk : (uv u).length = done.length + (uvF m q).length := by rw [← hd, List.length_append]
  have n2 := E.1
  have hqs : q < 18446744073709551616 := by
    have : 1 ≤ 128 ^ (9 - m) := Nat.one_le_pow _ _ (by decide)
    have := Nat.mul_le_mul_left q this
    omega
  by_cases h128 : 128 ≤ q
  · obtain ⟨m', rfl⟩ : ∃ m', m = m' + 1 := by
      cases m with
      | zero => omega
      | succ m' => exact ⟨m', rfl⟩
    simp -implicitDefEqProofs (disch := omega) only [go_sem, p1, p5]
    refine thenN_app (base := η.nx) (by decide) (o.ext (.new (Nat.le_refl _))) .lit (by omega) (by show η.nx ≤ η2.nx + 1; omega) fun x3 η3 o3 E3 => ?_
    have hu : uvF (m' + 1) q = (q % 128 + 128) :: uvF m' (q / 128) := by rw [uvF, if_neg (by omega)]
    simp -implicitDefEqProofs (disch := omega) only [go_sem, p1, p5]
    refine ⟨m', Nat.lt_succ_self _, q / 128, done ++ [q % 128 + 128], _, by omega, ?_, ?_, ?_, rfl, rfl, ?_, (E.trans (.new n2)).trans E3⟩
    · rw [← hd, hu]; simp
    · have hle : q / 128 * 128 ^ (9 - m') ≤ q * 128 ^ (9 - (m' + 1)) := by
        rw [show 9 - m' = 9 - (m' + 1) + 1 by omega, Nat.pow_succ, Nat.mul_comm (128 ^ (9 - (m' + 1))) 128, ← Nat.mul_assoc]
        exact Nat.mul_le_mul_right _ (Nat.div_mul_le_self q 128)
      omega
    · rw [List.length_append]; show done.length + 1 + m' = 9; omega
    · have : u8s (l ++ done) ++ [AV.int .u8 (q % 128 + 128)] = u8s (l ++ (done ++ [q % 128 + 128])) := by unfold u8s; simp
      rw [← this, List.length_append, List.length_singleton, ← Nat.add_assoc]
      exact o3
  · simp -implicitDefEqProofs (disch := omega) only [go_sem, p1, p5]
    have hu : uvF m q = [q] := by
      cases m with
      | zero => rfl
      | succ m' => rw [uvF, if_pos (by omega)]
    refine thenN_app (base := η.nx) (by decide) (o.ext (.new (Nat.le_refl _))) .lit (by omega) (by show η.nx ≤ η2.nx + 1; omega) fun x3 η3 o3 E3 => ?_
    rw [hu] at hk hd
    simp -implicitDefEqProofs (disch := omega) only [go_sem]
    refine h _ _ ?_ ((E.trans (.new n2)).trans E3)
    have : u8s (l ++ done) ++ [AV.int .u8 q] = u8s (l ++ uv u) := by rw [← hd]; unfold u8s; simp
    rw [← this, hk, List.length_singleton, ← Nat.add_assoc]
    exact o3
set_option maxHeartbeats 1000000 in
theorem putI_then (U : Usual nat) {η : HN} {y : AV} {l : List Nat} {u : Nat} {Q : AV → HN → Prop} (hy : RdA 1 η y l.length (u8s l)) (hl : l.length ≤ 1099511627776) (hu : u < 18446744073709551616)
    (h : ∀ v η', OwnA 1 η.nx η' v (l.length + (uv (zz u)).length) (u8s (l ++ uv (zz u))) → ExtB η.nx η η' → Q v η') : ∃ v η', CallN Tryd.prog nat 43 [y, .int .i64 u] η v η' ∧ Q v η' := by
  refine call_of (PT := pl43) Tryd.func43 rfl (U 43 (by decide)) ok43 rfl ?_
  by_cases h0 : u < 9223372036854775808
  · have e3 : zz u = 2 * u := if_pos h0
    simp -implicitDefEqProofs (disch := omega) only [go_sem]
    refine thenN_call (putU_then U (u := 2 * u) hy hl (by omega) fun v η' o E => ?_)
    simp -implicitDefEqProofs (disch := omega) only [go_sem]
    rw [← e3] at o
    exact h v η' o E
  · have e3 : zz u = 2 * (18446744073709551615 - u) + 1 := if_neg h0
    have hlt : ltN .i64 u 0 = true := by unfold ltN; rw [nneg_big h0]; rfl
    have fin : ∀ n, n = zz u → ∃ v η', CallN Tryd.prog nat 42 [y, .int .u64 n] η v η' ∧ Q v η' := fun n hn => by
      rw [hn]
      exact putU_then U hy hl (zz_lt hu) h
    by_cases h1 : u = 18446744073709551615
    · subst h1
      simp -implicitDefEqProofs (disch := omega) only [go_sem, hlt, Bool.not_true]
      obtain ⟨v, η', k, q⟩ := fin _ (show 1 = _ from rfl)
      refine thenN_call ⟨v, η', k, ?_⟩
      simp -implicitDefEqProofs (disch := omega) only [go_sem]
      exact q
    · simp -implicitDefEqProofs (disch := omega) only [go_sem, hlt, Bool.not_true]
      obtain ⟨v, η', k, q⟩ := fin (2 * (18446744073709551616 - (u + 1)) + 1) (by omega)
      refine thenN_call ⟨v, η', k, ?_⟩
      simp -implicitDefEqProofs (disch := omega) only [go_sem]
      exact q
end Go.Proofs.YtjljolnhmmbkoaaDoor
namespace Go.Plain
open Go.Eng
set_option autoImplicit false
/-- what a reader gives, what is left, whether it is spoilt -/
def rdG (l : List Nat) (bad : Bool) : Nat × List Nat × Bool := match rdU l with | some (v, r) => (v, r, bad) | none => (0, [], true)
theorem rdF_lt : ∀ (f i u : Nat) (l : List Nat) (v : Nat) (r : List Nat), rdF f i u l = some (v, r) → ∃ k, r = l.drop k
  | 0, i, u, l, v, r, h => by cases l <;> cases h
  | f + 1, i, u, [], v, r, h => by cases h
  | f + 1, i, u, x :: l, v, r, h => by
    unfold rdF at h
    split at h
    · cases h
    split at h
    · obtain ⟨k, hk⟩ := rdF_lt f _ _ l v r h
      exact ⟨k + 1, hk⟩
    split at h
    · cases h
    · cases h; exact ⟨1, rfl⟩
theorem or_add {u y k : Nat} (h : u < 2 ^ k) : u ||| (y * 2 ^ k) = u + y * 2 ^ k := by
  rw [Nat.or_comm, Nat.mul_comm, ← Nat.two_pow_add_eq_or_of_lt h, Nat.add_comm]
theorem p128 (i : Nat) : 128 ^ i = 2 ^ (7 * i) := by rw [Nat.pow_mul]
set_option maxRecDepth 100000 in
theorem and128 : ∀ x, x < 256 → x &&& 128 = if 128 ≤ x then 128 else 0 := by decide
end Go.Plain
namespace Go.Proofs.YtjljolnhmmbkoaaDoor
open Go.Eng Go.Plain
set_option autoImplicit false
set_option maxRecDepth 100000
variable {nat : ∀ [Deep], Nats}
/-- bytes that lie apart from a reader -/
def RdK (η : HN) (rp : Nat) (y : AV) (l : List Nat) : Prop := Emp y l ∨ ∃ b off n cap, y = .slice b off n cap ∧ RdS η b off n cap l ∧ b < η.nx ∧ b < rp
def RdrAt (η : HN) (rp : Nat) (l : List Nat) (bad : Bool) : Prop := ∃ y, η.f rp = .live false [y, .bool bad] ∧ rp < η.nx ∧ RdK η rp y l
theorem RdK.keep {η η' : HN} {rp : Nat} {y : AV} {l : List Nat} (h : RdK η rp y l) (hn : η.nx ≤ η'.nx) (hk : ∀ b, b < η.nx → b ≠ rp → η'.f b = η.f b) : RdK η' rp y l := by
  rcases h with h | ⟨b, off, n, cap, h1, ⟨h2, h3, ro, row, h4, h5⟩, h6, h7⟩
  · exact .inl h
  · exact .inr ⟨b, off, n, cap, h1, ⟨h2, h3, ro, row, (hk b h6 (Nat.ne_of_lt h7)).trans h4, h5⟩, by omega, h7⟩
theorem RdrAt.keep {η η' : HN} {rp : Nat} {l : List Nat} {bad : Bool} (h : RdrAt η rp l bad) (e : ExtB η.nx η η') : RdrAt η' rp l bad := by
  obtain ⟨y, h1, h2, h3⟩ := h
  exact ⟨y, (e.2 _ h2).trans h1, by have := e.1; omega, h3.keep e.1 fun b hb _ => e.2 b hb⟩
theorem RdrAt.keepB {η η' : HN} {rp : Nat} {l : List Nat} {bad : Bool} (h : RdrAt η rp l bad) (hn : η.nx ≤ η'.nx) (hk : ∀ b, b ≤ rp → η'.f b = η.f b) : RdrAt η' rp l bad := by
  obtain ⟨y, h1, h2, h3⟩ := h
  refine ⟨y, (hk _ (Nat.le_refl _)).trans h1, by omega, ?_⟩
  rcases h3 with h | ⟨b, off, n, cap, h1, ⟨h2, h3, ro, row, h4, h5⟩, h6, h7⟩
  · exact .inl h
  · exact .inr ⟨b, off, n, cap, h1, ⟨h2, h3, ro, row, (hk b (by omega)).trans h4, h5⟩, by omega, h7⟩
theorem RdK.len {η η' : HN} {rp e w : Nat} {y : AV} {l : List Nat} (h : RdK η rp y l) (hl : l.length ≤ 9223372036854775807) : lenN (.slice e 1 w) y η' = .ok (.int .i64 l.length) η' := by
  rcases h with ⟨rfl, rfl | ⟨b, off, cap, rfl⟩⟩ | ⟨b, off, n, cap, rfl, ⟨rfl, _⟩, _⟩
  · rfl
  · rfl
  · rw [lenN_sl, lenI_at, if_pos hl]
theorem RdK.at {η : HN} {rp : Nat} {y : AV} {l : List Nat} (h : RdK η rp y l) {i : Nat} (hi : i < l.length) : ∃ b off cap ro row, y = .slice b off l.length cap ∧ η.f b = .live ro row ∧ b < η.nx ∧ b ≠ rp ∧ row[off + i]? = some (.int .u8 l[i]) := by
  rcases h with ⟨rfl, _⟩ | ⟨b, off, n, cap, rfl, ⟨rfl, h3, ro, row, h4, h5, h6⟩, h7, h8⟩
  · simp at hi
  · refine ⟨b, off, cap, ro, row, rfl, h4, h7, Nat.ne_of_lt h8, ?_⟩
    have e : (u8s l)[i]? = row[off + i]? := by rw [← h6, List.getElem?_take, if_pos hi, List.getElem?_drop]
    rw [← e]; unfold u8s; rw [List.getElem?_map, List.getElem?_eq_getElem hi]; rfl
/-- from the i-th on -/
theorem RdK.slice {η η' : HN} {rp e w i : Nat} {y : AV} {l : List Nat} (h : RdK η rp y l) (hi : i ≤ l.length) (h0 : 0 < l.length) (hl : l.length ≤ 9223372036854775807) : ∃ y', slN (.slice e 1 w) y (some (.int .i64 i)) none none η' = .ok y' η' ∧ RdK η rp y' (l.drop i) ∧ cellsV y' = some [y'] := by
  rcases h with ⟨rfl, _⟩ | ⟨b, off, n, cap, rfl, ⟨rfl, h3, ro, row, h4, h5, h6⟩, h7, h8⟩
  · simp at h0
  have hn : nneg .i64 i = true := by rw [nnegD_i64]; exact decide_eq_true (by omega)
  have rest : ∀ cap', CapIs (l.length - i) 1 cap' → RdK η rp (.slice b (off + i * 1) (l.length - i) cap') (l.drop i) := fun cap' hc => by
    refine .inr ⟨b, off + i * 1, l.length - i, cap', rfl, ⟨by rw [List.length_drop], hc, ro, row, h4, by omega, ?_⟩, h7, h8⟩
    have : (u8s l).drop i = u8s (l.drop i) := by unfold u8s; rw [List.map_drop]
    rw [← this, ← h6, List.drop_take, List.drop_drop, Nat.mul_one]
  cases cap with
  | kn c =>
    have hc : l.length ≤ c := h3
    have e1 : slN (.slice e 1 w) (.slice b off l.length (.kn c)) (some (.int .i64 i)) none none η' = slToN b off i l.length c 1 η' := by
      rw [slN_kn, bndsN_at, bndN_s, if_pos hn, bndN_n, if_pos ⟨hi, hc⟩]
    rw [e1, slToN_at]
    by_cases hci : c = i
    · rw [if_pos hci]
      exact ⟨_, rfl, .inl ⟨by rw [List.drop_eq_nil_of_le (by omega)], .inr ⟨_, _, _, rfl⟩⟩, rfl⟩
    · rw [if_neg hci]
      exact ⟨_, rfl, rest _ (by show _ ≤ c - i; omega), rfl⟩
  | un es =>
    have hc : es = 1 := h3
    subst hc
    have e1 : slN (.slice e 1 w) (.slice b off l.length (.un 1)) (some (.int .i64 i)) none none η' = .ok (.slice b (off + i * 1) (l.length - i) (.un 1)) η' := by
      rw [slN_un, if_pos rfl, bndsN_at, bndN_s, if_pos hn, bndN_n, if_pos ⟨hi, Nat.le_refl _⟩]
    exact ⟨_, e1, rest _ rfl, rfl⟩
theorem spoil_then (U : Usual nat) {η : HN} {rp : Nat} {l : List Nat} {bad : Bool} {Q : AV → HN → Prop} (R : RdrAt η rp l bad) (h : ∀ v η', RdrAt η' rp [] true → η.nx = η'.nx → (∀ b, b ≠ rp → η'.f b = η.f b) → Q v η') : ∃ v η', CallN Tryd.prog nat 59 [.ptr rp 0] η v η' ∧ Q v η' := by
  refine call_of (PT := pl59) Tryd.func59 rfl (U 59 (by decide)) ok59 rfl ?_
  obtain ⟨y, r1, r2, r3⟩ := R
  simp -implicitDefEqProofs (disch := omega) only [go_sem, r1]
  refine h _ _ ⟨.nilslice, by show (if rp = rp then _ else _) = _; rw [if_pos rfl], r2, .inl ⟨rfl, .inl rfl⟩⟩ rfl fun b hb => ?_
  show (if b = rp then _ else if b = rp then _ else _) = _
  rw [if_neg hb, if_neg hb]
theorem shl_rd {a k : Nat} (h : a * 2 ^ k < 18446744073709551616) : shlN .u64 a k = a * 2 ^ k := by
  show (a * 2 ^ k) % 18446744073709551616 = _
  exact Nat.mod_eq_of_lt h
def UI (η0 : HN) (rp : Nat) (l : List Nat) (m : Nat) (φ : FN) (η : HN) : Prop := η = η0 ∧ ∃ i u, m = 10 - i ∧ i ≤ 10 ∧ φ 0 = .ptr rp 0 ∧ φ 3 = .int .u64 u ∧ φ 6 = .int .i64 i ∧ rdU l = rdF (10 - i) i u (l.drop i) ∧ u < 2 ^ (7 * i)
set_option maxHeartbeats 2000000 in
theorem rdrU_then (U : Usual nat) {η : HN} {rp : Nat} {l : List Nat} {bad : Bool} {Q : AV → HN → Prop} (R : RdrAt η rp l bad) (hx : ∀ x ∈ l, x < 256) (hl : l.length ≤ 9223372036854775807)
    (h : ∀ η', RdrAt η' rp (rdG l bad).2.1 (rdG l bad).2.2 → η.nx = η'.nx → (∀ b, b ≠ rp → η'.f b = η.f b) → Q (.int .u64 (rdG l bad).1) η') : ∃ v η', CallN Tryd.prog nat 49 [.ptr rp 0] η v η' ∧ Q v η' := by
  refine call_of (PT := pl49) Tryd.func49 rfl (U 49 (by decide)) ok49 rfl ?_
  simp -implicitDefEqProofs (disch := omega) only [go_sem]
  refine wpN_loop (UI η rp l) 10 ⟨rfl, 0, 0, rfl, by decide, rfl, rfl, rfl, rfl, by decide⟩ ?_
  rintro m φ ζ ⟨rfl, i, u, hm, hi, p0, p3, p6, hr, hu⟩
  have R0 := R
  obtain ⟨y, r1, r2, r3⟩ := R
  have ly := fun e w => r3.len (e := e) (w := w) (η' := ζ) hl
  have bad0 : rdU l = none → ∀ φ' : FN, ∃ v η', CallN Tryd.prog nat 59 [.ptr rp 0] ζ v η' ∧ Q (.int .u64 0) η' := fun hn φ' => spoil_then U R0 fun v η' R' n k => by
    unfold rdG at h
    rw [hn] at h
    exact h η' R' n k
  by_cases h10 : i = 10
  · subst h10
    have hn : rdU l = none := by rw [hr]; unfold rdF; cases l.drop 10 <;> rfl
    simp -implicitDefEqProofs (disch := omega) only [go_sem, p0, p3, p6]
    obtain ⟨v, η', k, q⟩ := bad0 hn φ
    refine thenN_call ⟨v, η', k, ?_⟩
    simp -implicitDefEqProofs (disch := omega) only [go_sem]
    exact q
  by_cases hlt : i < l.length
  · obtain ⟨b, off, cap, ro, row, ye, hb, hbn, hbr, hrw⟩ := r3.at hlt
    obtain ⟨f, hf⟩ : ∃ f, 10 - i = f + 1 := ⟨9 - i, by omega⟩
    have hd : l.drop i = l[i] :: l.drop (i + 1) := List.drop_eq_getElem_cons hlt
    rw [hf, hd, rdF] at hr
    have hxi := hx _ (List.getElem_mem hlt)
    rw [ye] at r1
    have e127 : l[i] &&& 127 = l[i] % 128 := Nat.and_two_pow_sub_one_eq_mod _ 7
    have e128 := and128 _ hxi
    by_cases h9 : i = 9 ∧ 1 < l[i]
    · rw [if_pos h9] at hr
      obtain ⟨h91, h92⟩ := h9
      simp -implicitDefEqProofs (disch := omega) only [go_sem, p0, p3, p6, r1, hb, hrw]
      obtain ⟨v, η', k, q⟩ := bad0 hr φ
      refine thenN_call ⟨v, η', k, ?_⟩
      simp -implicitDefEqProofs (disch := omega) only [go_sem]
      exact q
    rw [if_neg h9] at hr
    have hsmall : l[i] % 128 * 2 ^ (7 * i) < 18446744073709551616 := by
      by_cases h9' : i = 9
      · have : l[i] ≤ 1 := by
          by_cases h1 : 1 < l[i]
          · exact absurd ⟨h9', h1⟩ h9
          · omega
        subst h9'
        have : l[9] % 128 ≤ 1 := by omega
        calc l[9] % 128 * 2 ^ (7 * 9) ≤ 1 * 2 ^ 63 := Nat.mul_le_mul_right _ this
          _ < _ := by decide
      · have h1 : l[i] % 128 < 128 := Nat.mod_lt _ (by decide)
        have h2 : 2 ^ (7 * i) ≤ 2 ^ 56 := Nat.pow_le_pow_right (by decide) (by omega)
        calc l[i] % 128 * 2 ^ (7 * i) ≤ 127 * 2 ^ 56 := Nat.mul_le_mul (by omega) h2
          _ < _ := by decide
    have hsh := shl_rd hsmall
    have hor := or_add (y := l[i] % 128) hu
    rw [p128] at hr
    by_cases h128 : 128 ≤ l[i]
    · rw [if_pos h128] at hr e128
      simp -implicitDefEqProofs (disch := omega) only [go_sem, p0, p3, p6, r1, hb, hrw, e127, e128, hsh, hor]
      refine ⟨10 - (i + 1), by omega, rfl, i + 1, _, rfl, by omega, p0, rfl, rfl, by rw [hr, show 10 - (i + 1) = f by omega], ?_⟩
      have h1 : l[i] % 128 < 128 := Nat.mod_lt _ (by decide)
      have h2 : l[i] % 128 * 2 ^ (7 * i) ≤ 127 * 2 ^ (7 * i) := Nat.mul_le_mul_right _ (by omega)
      have h3 : 2 ^ (7 * (i + 1)) = 2 ^ (7 * i) * 128 := by rw [Nat.mul_add, Nat.pow_add]
      omega
    rw [if_neg h128] at hr e128
    by_cases hz : l[i] = 0 ∧ 0 < i
    · rw [if_pos hz] at hr
      obtain ⟨hz1, hz2⟩ := hz
      have e0 : l[i] = 0 := hz1
      by_cases h9' : i = 9
      · simp -implicitDefEqProofs (disch := omega) only [go_sem, p0, p3, p6, r1, hb, hrw, e127, e128, hsh, hor]
        obtain ⟨v, η', k, q⟩ := bad0 hr φ
        refine thenN_call ⟨v, η', k, ?_⟩
        simp -implicitDefEqProofs (disch := omega) only [go_sem]
        exact q
      · simp -implicitDefEqProofs (disch := omega) only [go_sem, p0, p3, p6, r1, hb, hrw, e127, e128, hsh, hor]
        obtain ⟨v, η', k, q⟩ := bad0 hr φ
        refine thenN_call ⟨v, η', k, ?_⟩
        simp -implicitDefEqProofs (disch := omega) only [go_sem]
        exact q
    rw [if_neg hz] at hr
    obtain ⟨y', hs, hy', cy'⟩ := r3.slice (η' := ζ) (e := 5) (w := 1) (i := i + 1) (by omega) (by omega) hl
    rw [ye] at hs
    have hm128 : l[i] % 128 = l[i] := Nat.mod_eq_of_lt (by omega)
    have hg : rdG l bad = (u + l[i] * 2 ^ (7 * i), l.drop (i + 1), bad) := by unfold rdG; rw [hr]
    rw [hg] at h
    rw [hm128] at hsh hor e127
    have done : Q (.int .u64 (u + l[i] * 2 ^ (7 * i))) (ζ.put rp (.live false [y', .bool bad])) := by
      refine h _ ⟨y', by show (if rp = rp then _ else _) = _; rw [if_pos rfl], r2, ?_⟩ rfl fun q hq => by show (if q = rp then _ else _) = _; rw [if_neg hq]
      exact hy'.keep (Nat.le_refl _) fun q _ hq => by show (if q = rp then _ else _) = _; rw [if_neg hq]
    by_cases h9' : i = 9
    · have : l[i] ≤ 1 := by
        by_cases h1 : 1 < l[i]
        · exact absurd ⟨h9', h1⟩ h9
        · omega
      by_cases h0 : l[i] = 0
      · exact absurd ⟨h0, by omega⟩ hz
      · simp -implicitDefEqProofs (disch := omega) only [go_sem, p0, p3, p6, r1, hb, hrw, e127, e128, hsh, hor, hs, cy']
        exact done
    · by_cases h0 : l[i] = 0
      · simp -implicitDefEqProofs (disch := omega) only [go_sem, p0, p3, p6, r1, hb, hrw, e127, e128, hsh, hor, hs, cy']
        exact done
      · simp -implicitDefEqProofs (disch := omega) only [go_sem, p0, p3, p6, r1, hb, hrw, e127, e128, hsh, hor, hs, cy']
        exact done
  · have hn : rdU l = none := by
      rw [hr, List.drop_eq_nil_of_le (by omega)]
      obtain ⟨f, hf⟩ : ∃ f, 10 - i = f + 1 := ⟨9 - i, by omega⟩
      rw [hf]; rfl
    have ly' := ly
    simp -implicitDefEqProofs (disch := omega) only [go_sem, p0, p3, p6, r1, ly]
    obtain ⟨v, η', k, q⟩ := bad0 hn φ
    refine thenN_call ⟨v, η', k, ?_⟩
    simp -implicitDefEqProofs (disch := omega) only [go_sem]
    exact q
end Go.Proofs.YtjljolnhmmbkoaaDoor
namespace Go.Proofs.YtjljolnhmmbkoaaDoor
open Go.Eng Go.Plain
set_option autoImplicit false
set_option maxRecDepth 100000
variable {nat : ∀ [Deep], Nats}
theorem fail_then (U : Usual nat) {η : HN} {rp : Nat} {l : List Nat} {bad : Bool} {Q : AV → HN → Prop} (R : RdrAt η rp l bad) (h : ∀ η', RdrAt η' rp [] true → η.nx = η'.nx → (∀ b, b ≠ rp → η'.f b = η.f b) → Q (.int .u64 0) η') : ∃ v η', CallN Tryd.prog nat 63 [.ptr rp 0] η v η' ∧ Q v η' := by
  refine call_of (PT := pl63) Tryd.func63 rfl (U 63 (by decide)) ok63 rfl ?_
  obtain ⟨y, r1, r2, r3⟩ := R
  simp -implicitDefEqProofs (disch := omega) only [go_sem, r1]
  refine h _ ⟨.nilslice, by show (if rp = rp then _ else _) = _; rw [if_pos rfl], r2, .inl ⟨rfl, .inl rfl⟩⟩ rfl fun b hb => ?_
  show (if b = rp then _ else if b = rp then _ else _) = _
  rw [if_neg hb, if_neg hb]
def WI (η0 : HN) (rp : Nat) (l : List Nat) (m : Nat) (φ : FN) (η : HN) : Prop := η = η0 ∧ ∃ i u, m = 10 - i ∧ i ≤ 10 ∧ φ 0 = .ptr rp 0 ∧ φ 3 = .int .u64 u ∧ φ 4 = .int .i64 i ∧ rdU l = rdF (10 - i) i u (l.drop i) ∧ u < 2 ^ (7 * i)
set_option maxHeartbeats 2000000 in
theorem refU_then (U : Usual nat) {η : HN} {rp : Nat} {l : List Nat} {bad : Bool} {Q : AV → HN → Prop} (R : RdrAt η rp l bad) (hx : ∀ x ∈ l, x < 256) (hl : l.length ≤ 9223372036854775807)
    (h : ∀ η', RdrAt η' rp (rdG l bad).2.1 (rdG l bad).2.2 → η.nx = η'.nx → (∀ b, b ≠ rp → η'.f b = η.f b) → Q (.int .u64 (rdG l bad).1) η') : ∃ v η', CallN Tryd.prog nat 58 [.ptr rp 0] η v η' ∧ Q v η' := by
  refine call_of (PT := pl58) Tryd.func58 rfl (U 58 (by decide)) ok58 rfl ?_
  simp -implicitDefEqProofs (disch := omega) only [go_sem]
  refine wpN_loop (WI η rp l) 10 ⟨rfl, 0, 0, rfl, by decide, rfl, rfl, rfl, rfl, by decide⟩ ?_
  rintro m φ ζ ⟨rfl, i, u, hm, hi, p0, p3, p4, hr, hu⟩
  have R0 := R
  obtain ⟨y, r1, r2, r3⟩ := R
  have ly := fun e w => r3.len (e := e) (w := w) (η' := ζ) hl
  have bad0 : rdU l = none → ∀ φ' : FN, ∃ v η', CallN Tryd.prog nat 63 [.ptr rp 0] ζ v η' ∧ Q v η' := fun hn φ' => fail_then U R0 fun η' R' n k => by
    unfold rdG at h
    rw [hn] at h
    exact h η' R' n k
  by_cases h10 : i = 10
  · subst h10
    have hn : rdU l = none := by rw [hr]; unfold rdF; cases l.drop 10 <;> rfl
    by_cases hh : 10 < l.length
    · simp -implicitDefEqProofs (disch := omega) only [go_sem, p0, p3, p4, r1, ly]
      obtain ⟨v, η', k, q⟩ := bad0 hn φ
      refine thenN_call ⟨v, η', k, ?_⟩
      simp -implicitDefEqProofs (disch := omega) only [go_sem]
      exact q
    · simp -implicitDefEqProofs (disch := omega) only [go_sem, p0, p3, p4, r1, ly]
      obtain ⟨v, η', k, q⟩ := bad0 hn φ
      refine thenN_call ⟨v, η', k, ?_⟩
      simp -implicitDefEqProofs (disch := omega) only [go_sem]
      exact q
  by_cases hlt : i < l.length
  · obtain ⟨b, off, cap, ro, row, ye, hb, hbn, hbr, hrw⟩ := r3.at hlt
    obtain ⟨f, hf⟩ : ∃ f, 10 - i = f + 1 := ⟨9 - i, by omega⟩
    have hd : l.drop i = l[i] :: l.drop (i + 1) := List.drop_eq_getElem_cons hlt
    rw [hf, hd, rdF] at hr
    have hxi := hx _ (List.getElem_mem hlt)
    rw [ye] at r1 ly
    have e127 : l[i] &&& 127 = l[i] % 128 := Nat.and_two_pow_sub_one_eq_mod _ 7
    have e128 := and128 _ hxi
    by_cases h9 : i = 9 ∧ 1 < l[i]
    · rw [if_pos h9] at hr
      obtain ⟨h91, h92⟩ := h9
      simp -implicitDefEqProofs (disch := omega) only [go_sem, p0, p3, p4, r1, ly, hb, hrw]
      obtain ⟨v, η', k, q⟩ := bad0 hr φ
      refine thenN_call ⟨v, η', k, ?_⟩
      simp -implicitDefEqProofs (disch := omega) only [go_sem]
      exact q
    rw [if_neg h9] at hr
    have hsmall : l[i] % 128 * 2 ^ (7 * i) < 18446744073709551616 := by
      by_cases h9' : i = 9
      · have : l[i] ≤ 1 := by
          by_cases h1 : 1 < l[i]
          · exact absurd ⟨h9', h1⟩ h9
          · omega
        subst h9'
        have : l[9] % 128 ≤ 1 := by omega
        calc l[9] % 128 * 2 ^ (7 * 9) ≤ 1 * 2 ^ 63 := Nat.mul_le_mul_right _ this
          _ < _ := by decide
      · have h1 : l[i] % 128 < 128 := Nat.mod_lt _ (by decide)
        have h2 : 2 ^ (7 * i) ≤ 2 ^ 56 := Nat.pow_le_pow_right (by decide) (by omega)
        calc l[i] % 128 * 2 ^ (7 * i) ≤ 127 * 2 ^ 56 := Nat.mul_le_mul (by omega) h2
          _ < _ := by decide
    have hsh := shl_rd hsmall
    have hor := or_add (y := l[i] % 128) hu
    rw [p128] at hr
    by_cases h128 : 128 ≤ l[i]
    · rw [if_pos h128] at hr e128
      simp -implicitDefEqProofs (disch := omega) only [go_sem, p0, p3, p4, r1, ly, hb, hrw, e127, e128, hsh, hor]
      refine ⟨10 - (i + 1), by omega, rfl, i + 1, _, rfl, by omega, p0, rfl, rfl, by rw [hr, show 10 - (i + 1) = f by omega], ?_⟩
      have h1 : l[i] % 128 < 128 := Nat.mod_lt _ (by decide)
      have h2 : l[i] % 128 * 2 ^ (7 * i) ≤ 127 * 2 ^ (7 * i) := Nat.mul_le_mul_right _ (by omega)
      have h3 : 2 ^ (7 * (i + 1)) = 2 ^ (7 * i) * 128 := by rw [Nat.mul_add, Nat.pow_add]
      omega
    rw [if_neg h128] at hr e128
    by_cases hz : l[i] = 0 ∧ 0 < i
    · rw [if_pos hz] at hr
      obtain ⟨hz1, hz2⟩ := hz
      have e0 : l[i] = 0 := hz1
      by_cases h9' : i = 9
      · simp -implicitDefEqProofs (disch := omega) only [go_sem, p0, p3, p4, r1, ly, hb, hrw, e127, e128, hsh, hor]
        obtain ⟨v, η', k, q⟩ := bad0 hr φ
        refine thenN_call ⟨v, η', k, ?_⟩
        simp -implicitDefEqProofs (disch := omega) only [go_sem]
        exact q
      · simp -implicitDefEqProofs (disch := omega) only [go_sem, p0, p3, p4, r1, ly, hb, hrw, e127, e128, hsh, hor]
        obtain ⟨v, η', k, q⟩ := bad0 hr φ
        refine thenN_call ⟨v, η', k, ?_⟩
        simp -implicitDefEqProofs (disch := omega) only [go_sem]
        exact q
    rw [if_neg hz] at hr
    obtain ⟨y', hs, hy', cy'⟩ := r3.slice (η' := ζ) (e := 5) (w := 1) (i := i + 1) (by omega) (by omega) hl
    rw [ye] at hs
    have hm128 : l[i] % 128 = l[i] := Nat.mod_eq_of_lt (by omega)
    have hg : rdG l bad = (u + l[i] * 2 ^ (7 * i), l.drop (i + 1), bad) := by unfold rdG; rw [hr]
    rw [hg] at h
    rw [hm128] at hsh hor e127
    have done : Q (.int .u64 (u + l[i] * 2 ^ (7 * i))) (ζ.put rp (.live false [y', .bool bad])) := by
      refine h _ ⟨y', by show (if rp = rp then _ else _) = _; rw [if_pos rfl], r2, ?_⟩ rfl fun q hq => by show (if q = rp then _ else _) = _; rw [if_neg hq]
      exact hy'.keep (Nat.le_refl _) fun q _ hq => by show (if q = rp then _ else _) = _; rw [if_neg hq]
    by_cases h9' : i = 9
    · have : l[i] ≤ 1 := by
        by_cases h1 : 1 < l[i]
        · exact absurd ⟨h9', h1⟩ h9
        · omega
      by_cases h0 : l[i] = 0
      · exact absurd ⟨h0, by omega⟩ hz
      · simp -implicitDefEqProofs (disch := omega) only [go_sem, p0, p3, p4, r1, ly, hb, hrw, e127, e128, hsh, hor, hs, cy']
        exact done
    · by_cases h0 : l[i] = 0
      · simp -implicitDefEqProofs (disch := omega) only [go_sem, p0, p3, p4, r1, ly, hb, hrw, e127, e128, hsh, hor, hs, cy']
        exact done
      · simp -implicitDefEqProofs (disch := omega) only [go_sem, p0, p3, p4, r1, ly, hb, hrw, e127, e128, hsh, hor, hs, cy']
        exact done
  · have hn : rdU l = none := by
      rw [hr, List.drop_eq_nil_of_le (by omega)]
      obtain ⟨f, hf⟩ : ∃ f, 10 - i = f + 1 := ⟨9 - i, by omega⟩
      rw [hf]; rfl
    have ly' := ly
    simp -implicitDefEqProofs (disch := omega) only [go_sem, p0, p3, p4, r1, ly]
    obtain ⟨v, η', k, q⟩ := bad0 hn φ
    refine thenN_call ⟨v, η', k, ?_⟩
    simp -implicitDefEqProofs (disch := omega) only [go_sem]
    exact q
end Go.Proofs.YtjljolnhmmbkoaaDoor
namespace Go.Eng
theorem OwnA.cells1 {s base n : Nat} {η : HN} {x : AV} {l : List AV} (h : OwnA s base η x n l) : cellsV x = some [x] := by
  obtain ⟨_, ⟨rfl, _⟩ | ⟨b, _, _, ⟨rfl, _⟩ | ⟨rfl, _⟩⟩⟩ := h <;> rfl
end Go.Eng
namespace Go.Plain
open Go.Eng
set_option autoImplicit false
theorem rdF_val : ∀ (f i u : Nat) (l : List Nat) (v : Nat) (r : List Nat), f + i = 10 → u < 128 ^ i → rdF f i u l = some (v, r) → v < 18446744073709551616
  | 0, i, u, l, v, r, _, _, h => by cases l <;> cases h
  | f + 1, i, u, [], v, r, _, _, h => by cases h
  | f + 1, i, u, x :: l, v, r, hf, hu, h => by
    unfold rdF at h
    have hs : 128 ^ (i + 1) = 128 ^ i * 128 := by rw [Nat.pow_succ]
    split at h
    · cases h
    rename_i h9
    split at h
    · have h1 : x % 128 < 128 := Nat.mod_lt _ (by decide)
      have h2 : x % 128 * 128 ^ i ≤ 127 * 128 ^ i := Nat.mul_le_mul_right _ (by omega)
      exact rdF_val f (i + 1) _ l v r (by omega) (by omega) h
    rename_i hx
    split at h
    · cases h
    · cases h
      by_cases hi : i = 9
      · subst hi
        have : x ≤ 1 := by
          by_cases h1 : 1 < x
          · exact absurd ⟨rfl, h1⟩ h9
          · omega
        have h2 : x * 128 ^ 9 ≤ 1 * 128 ^ 9 := Nat.mul_le_mul_right _ this
        have h3 : (128 : Nat) ^ 9 = 9223372036854775808 := by decide
        omega
      · have h2 : x * 128 ^ i ≤ 127 * 128 ^ i := Nat.mul_le_mul_right _ (by omega)
        have h4 : 128 ^ (i + 1) ≤ 128 ^ 9 := Nat.pow_le_pow_right (by decide) (by omega)
        have h3 : (128 : Nat) ^ 9 = 9223372036854775808 := by decide
        omega
theorem rdG_lt (l : List Nat) (bad : Bool) : (rdG l bad).1 < 18446744073709551616 := by
  unfold rdG
  cases h : rdU l with
  | none => show 0 < _; omega
  | some x => obtain ⟨v, r⟩ := x; exact rdF_val 10 0 0 l v r rfl (by decide) h
theorem rdG_rest (l : List Nat) (bad : Bool) : ∀ x ∈ (rdG l bad).2.1, x ∈ l := by
  unfold rdG
  cases h : rdU l with
  | none => intro x hx; cases hx
  | some x =>
    obtain ⟨v, r⟩ := x
    obtain ⟨k, rfl⟩ := rdF_lt 10 0 0 l v r h
    intro x hx
    exact List.mem_of_mem_drop hx
theorem rdG_len (l : List Nat) (bad : Bool) : (rdG l bad).2.1.length ≤ l.length := by
  unfold rdG
  cases h : rdU l with
  | none => exact Nat.zero_le _
  | some x =>
    obtain ⟨v, r⟩ := x
    obtain ⟨k, rfl⟩ := rdF_lt 10 0 0 l v r h
    show (l.drop k).length ≤ _
    rw [List.length_drop]; omega
end Go.Plain
namespace Go.Proofs.YtjljolnhmmbkoaaDoor
open Go.Eng Go.Plain
set_option autoImplicit false
set_option maxRecDepth 100000
variable {nat : ∀ [Deep], Nats}
theorem uz_shr {u : Nat} (h : u < 18446744073709551616) : (u / 2) ^^^ ((18446744073709551616 - u % 2) % 18446744073709551616) = uz u := by
  unfold uz
  by_cases h0 : u % 2 = 0
  · rw [if_pos h0, h0]
    show (u / 2) ^^^ 0 = _
    exact Nat.xor_zero _
  · have h1 : u % 2 = 1 := by omega
    rw [if_neg h0, h1]
    show (u / 2) ^^^ 18446744073709551615 = _
    exact xor_ones (by omega)
theorem rdrI_then (U : Usual nat) {η : HN} {rp : Nat} {l : List Nat} {bad : Bool} {Q : AV → HN → Prop} (R : RdrAt η rp l bad) (hx : ∀ x ∈ l, x < 256) (hl : l.length ≤ 9223372036854775807)
    (h : ∀ η', RdrAt η' rp (rdG l bad).2.1 (rdG l bad).2.2 → η.nx = η'.nx → (∀ b, b ≠ rp → η'.f b = η.f b) → Q (.int .i64 (uz (rdG l bad).1)) η') : ∃ v η', CallN Tryd.prog nat 23 [.ptr rp 0] η v η' ∧ Q v η' := by
  refine call_of (PT := pl23) Tryd.func23 rfl (U 23 (by decide)) ok23 rfl ?_
  simp -implicitDefEqProofs (disch := omega) only [go_sem]
  refine thenN_call (rdrU_then U R hx hl fun η' R' n k => ?_)
  have hv := rdG_lt l bad
  have hq := h η' R' n k
  generalize (rdG l bad).1 = w at *
  have e1 : shrN .u64 w 1 = w / 2 := shr_u64 hv
  rw [← uz_shr hv] at hq
  simp -implicitDefEqProofs (disch := omega) only [go_sem, e1, Nat.and_one_is_mod]
  exact hq
theorem refI_then (U : Usual nat) {η : HN} {rp : Nat} {l : List Nat} {bad : Bool} {Q : AV → HN → Prop} (R : RdrAt η rp l bad) (hx : ∀ x ∈ l, x < 256) (hl : l.length ≤ 9223372036854775807)
    (h : ∀ η', RdrAt η' rp (rdG l bad).2.1 (rdG l bad).2.2 → η.nx = η'.nx → (∀ b, b ≠ rp → η'.f b = η.f b) → Q (.int .i64 (uz (rdG l bad).1)) η') : ∃ v η', CallN Tryd.prog nat 48 [.ptr rp 0] η v η' ∧ Q v η' := by
  refine call_of (PT := pl48) Tryd.func48 rfl (U 48 (by decide)) ok48 rfl ?_
  simp -implicitDefEqProofs (disch := omega) only [go_sem]
  refine thenN_call (refU_then U R hx hl fun η' R' n k => ?_)
  have hv := rdG_lt l bad
  have hq := h η' R' n k
  generalize (rdG l bad).1 = w at *
  unfold uz at hq
  by_cases h0 : w % 2 = 0
  · rw [if_pos h0] at hq
    simp -implicitDefEqProofs (disch := omega) only [go_sem]
    exact hq
  · rw [if_neg h0] at hq
    have e : ((18446744073709551616 - w / 2) % 18446744073709551616 + (18446744073709551616 - 1)) % 18446744073709551616 = 18446744073709551615 - w / 2 := by omega
    simp -implicitDefEqProofs (disch := omega) only [go_sem, e]
    exact hq
theorem read_then (U : Usual nat) {η : HN} {y : AV} {l : List Nat} {Q : AV → HN → Prop} (hy : RdA 1 η y l.length (u8s l)) (hl : l.length ≤ 1099511627776)
    (h : ∀ rp η', RdrAt η' rp l false → η.nx ≤ rp → ExtB η.nx η η' → Q (.ptr rp 0) η') : ∃ v η', CallN Tryd.prog nat 21 [y] η v η' ∧ Q v η' := by
  refine call_of (PT := pl21) Tryd.func21 rfl (U 21 (by decide)) ok21 rfl ?_
  simp -implicitDefEqProofs (disch := omega) only [go_sem]
  have E0 : ExtB η.nx η (η.new (.live false [])) := .new (Nat.le_refl _)
  refine thenN_app (base := η.nx) (by decide) .new0 (hy.ext E0) (by omega) E0.1 fun x1 η1 o1 E1 => ?_
  rw [List.nil_append, Nat.zero_add] at o1
  have c1 := OwnA.cells1 o1
  simp -implicitDefEqProofs (disch := omega) only [go_sem, c1]
  have n1 := E1.1
  have n1 : η.nx + 1 ≤ η1.nx := n1
  refine h η1.nx _ ⟨x1, by show (if η1.nx = η1.nx then _ else _) = _; rw [if_pos rfl], Nat.lt_succ_self _, ?_⟩ (by omega) ((E0.trans E1).trans (.new (by omega)))
  obtain ⟨h0, ⟨rfl, h1⟩ | ⟨b, h1, h2, ⟨rfl, h3, _⟩ | ⟨rfl, h3⟩⟩⟩ := o1
  · exact .inl ⟨List.eq_nil_of_length_eq_zero h1, .inl rfl⟩
  · exact .inl ⟨List.eq_nil_of_length_eq_zero h3, .inr ⟨_, _, _, rfl⟩⟩
  · refine .inr ⟨b, 0, _, _, rfl, ⟨rfl, rfl, false, u8s l, ?_, by have := u8s_length l; omega, by rw [List.drop_zero, ← u8s_length l, List.take_length]⟩, by show b < η1.nx + 1; omega, by omega⟩
    show (if b = η1.nx then _ else _) = _
    rw [if_neg (by omega)]; exact h3
theorem bad_call (U : Usual nat) {η : HN} {rp : Nat} {l : List Nat} {bad : Bool} (R : RdrAt η rp l bad) : CallN Tryd.prog nat 29 [.ptr rp 0] η (.bool bad) η := by
  have : ∃ v η', CallN Tryd.prog nat 29 [.ptr rp 0] η v η' ∧ v = .bool bad ∧ η' = η := by
    refine call_of (PT := pl29) Tryd.func29 rfl (U 29 (by decide)) ok29 rfl ?_
    obtain ⟨y, r1, r2, r3⟩ := R
    simp -implicitDefEqProofs (disch := omega) only [go_sem, r1]
  obtain ⟨v, η', k, rfl, rfl⟩ := this
  exact k
theorem left_call (U : Usual nat) {η : HN} {rp : Nat} {l : List Nat} {bad : Bool} (R : RdrAt η rp l bad) (hl : l.length ≤ 9223372036854775807) : CallN Tryd.prog nat 50 [.ptr rp 0] η (.int .i64 l.length) η := by
  have : ∃ v η', CallN Tryd.prog nat 50 [.ptr rp 0] η v η' ∧ v = .int .i64 l.length ∧ η' = η := by
    refine call_of (PT := pl50) Tryd.func50 rfl (U 50 (by decide)) ok50 rfl ?_
    obtain ⟨y, r1, r2, r3⟩ := R
    have ly := fun e w => r3.len (e := e) (w := w) (η' := η) hl
    simp -implicitDefEqProofs (disch := omega) only [go_sem, r1, ly]
  obtain ⟨v, η', k, rfl, rfl⟩ := this
  exact k
end Go.Proofs.YtjljolnhmmbkoaaDoor
namespace Go.Plain
open Go.Eng
set_option autoImplicit false
/-- so many numbers that may be below 0 -/
def rdN : Nat → List Nat → Bool → List Nat × List Nat × Bool
  | 0, l, bad => ([], l, bad)
  | n + 1, l, bad => let g := rdG l bad; let h := rdN n g.2.1 g.2.2; (uz g.1 :: h.1, h.2)
theorem rdN_s : ∀ (n : Nat) (l : List Nat) (bad : Bool), rdN (n + 1) l bad = ((rdN n l bad).1 ++ [uz (rdG (rdN n l bad).2.1 (rdN n l bad).2.2).1], (rdG (rdN n l bad).2.1 (rdN n l bad).2.2).2)
  | 0, l, bad => rfl
  | n + 1, l, bad => by
    have := rdN_s n (rdG l bad).2.1 (rdG l bad).2.2
    rw [rdN, this]
    rfl
theorem rdN_len : ∀ (n : Nat) (l : List Nat) (bad : Bool), (rdN n l bad).1.length = n
  | 0, _, _ => rfl
  | n + 1, l, bad => by rw [rdN_s, List.length_append, rdN_len n l bad]; rfl
theorem rdN_lt : ∀ (n : Nat) (l : List Nat) (bad : Bool), ∀ x ∈ (rdN n l bad).1, x < 18446744073709551616
  | 0, _, _, x, hx => by cases hx
  | n + 1, l, bad, x, hx => by
    rw [rdN_s, List.mem_append] at hx
    rcases hx with hx | hx
    · exact rdN_lt n l bad x hx
    · rw [List.mem_singleton] at hx; rw [hx]; exact uz_lt (rdG_lt _ _)
theorem rdN_rest : ∀ (n : Nat) (l : List Nat) (bad : Bool), (∀ x ∈ (rdN n l bad).2.1, x ∈ l) ∧ (rdN n l bad).2.1.length ≤ l.length
  | 0, _, _ => ⟨fun x h => h, Nat.le_refl _⟩
  | n + 1, l, bad => by
    rw [rdN_s]
    obtain ⟨h1, h2⟩ := rdN_rest n l bad
    exact ⟨fun x hx => h1 x (rdG_rest _ _ x hx), Nat.le_trans (rdG_len _ _) h2⟩
end Go.Plain
namespace Go.Plain
open Go.Eng
set_option autoImplicit false
theorem rdG_uv {u : Nat} (h : u < 18446744073709551616) (r : List Nat) (bad : Bool) : rdG (uv u ++ r) bad = (u, r, bad) := by unfold rdG; rw [rdU_uv h r]
theorem rdN_nums : ∀ (l r : List Nat) (bad : Bool), (∀ n ∈ l, n < 18446744073709551616) → rdN l.length (nums l ++ r) bad = (l, r, bad)
  | [], r, bad, _ => rfl
  | a :: l, r, bad, h => by
    have ha := h a (by simp)
    show (let g := rdG ((uv (zz a) ++ nums l) ++ r) bad; let h := rdN l.length g.2.1 g.2.2; (uz g.1 :: h.1, h.2)) = _
    rw [List.append_assoc, rdG_uv (zz_lt ha)]
    dsimp only
    rw [rdN_nums l r bad fun n hn => h n (List.mem_cons_of_mem _ hn), uz_zz ha]
/-- so many, but not many more than bytes are left -/
def cutN (n left : Nat) : Nat := if left < n then left + 1 else n
theorem cutN_le (n left : Nat) : cutN n left ≤ left + 1 := by unfold cutN; split <;> omega
def getN (l : List Nat) (bad : Bool) : List Nat × List Nat × Bool := rdN (cutN (rdG l bad).1 (rdG l bad).2.1.length) (rdG l bad).2.1 (rdG l bad).2.2
def grp : List Nat → List Ins
  | a :: b :: c :: d :: r => ⟨a, b, c, d⟩ :: grp r
  | _ => []
theorem grp_flds : ∀ c : List Ins, grp (flds c) = c
  | [] => rfl
  | i :: c => by
    show grp ([i.op, i.a, i.b, i.c] ++ flds c) = _
    show ⟨i.op, i.a, i.b, i.c⟩ :: grp (flds c) = _
    rw [grp_flds c]
theorem grp_app : ∀ (n : Nat) (x : List Nat) (a b c d : Nat), x.length = 4 * n → grp (x ++ [a, b, c, d]) = grp x ++ [⟨a, b, c, d⟩]
  | 0, x, a, b, c, d, h => by
    obtain rfl : x = [] := List.eq_nil_of_length_eq_zero (by omega)
    rfl
  | n + 1, x, a, b, c, d, h => by
    match x, h with
    | p :: q :: r :: s :: x, h =>
      show _ :: grp (x ++ [a, b, c, d]) = _ :: (grp x ++ _)
      rw [grp_app n x a b c d (by simp only [List.length_cons] at h; omega)]
theorem grp_len : ∀ (n : Nat) (x : List Nat), x.length = 4 * n → (grp x).length = n
  | 0, x, h => by
    obtain rfl : x = [] := List.eq_nil_of_length_eq_zero (by omega)
    rfl
  | n + 1, x, h => by
    match x, h with
    | p :: q :: r :: s :: x, h =>
      show (grp x).length + 1 = _
      rw [grp_len n x (by simp only [List.length_cons] at h; omega)]
theorem grp_lt : ∀ (x : List Nat), (∀ n ∈ x, n < 18446744073709551616) → ∀ i ∈ grp x, i.op < 18446744073709551616 ∧ i.a < 18446744073709551616 ∧ i.b < 18446744073709551616 ∧ i.c < 18446744073709551616
  | [], _, i, hi => by cases hi
  | [_], _, i, hi => by cases hi
  | [_, _], _, i, hi => by cases hi
  | [_, _, _], _, i, hi => by cases hi
  | a :: b :: c :: d :: r, h, i, hi => by
    rcases List.mem_cons.1 hi with rfl | hi
    · exact ⟨h a (by simp), h b (by simp), h c (by simp), h d (by simp)⟩
    · exact grp_lt r (fun n hn => h n (by simp [hn])) i hi
/-- so many instructions -/
def rdC (n : Nat) (l : List Nat) (bad : Bool) : List Ins × List Nat × Bool := (grp (rdN (4 * n) l bad).1, (rdN (4 * n) l bad).2)
def getC (l : List Nat) (bad : Bool) : List Ins × List Nat × Bool := rdC (cutN (rdG l bad).1 (rdG l bad).2.1.length) (rdG l bad).2.1 (rdG l bad).2.2
theorem rdC_s (n : Nat) (l : List Nat) (bad : Bool) : rdC (n + 1) l bad =
    (let s := (rdC n l bad).2
     let a := rdG s.1 s.2
     let b := rdG a.2.1 a.2.2
     let c := rdG b.2.1 b.2.2
     let d := rdG c.2.1 c.2.2
     ((rdC n l bad).1 ++ [⟨uz a.1, uz b.1, uz c.1, uz d.1⟩], d.2)) := by
  unfold rdC
  rw [show 4 * (n + 1) = 4 * n + 1 + 1 + 1 + 1 by omega, rdN_s, rdN_s, rdN_s, rdN_s]
  dsimp only
  rw [List.append_assoc, List.append_assoc, List.append_assoc]
  congr 1
  exact grp_app n _ _ _ _ _ (rdN_len _ _ _)
theorem rdC_len (n : Nat) (l : List Nat) (bad : Bool) : (rdC n l bad).1.length = n := grp_len n _ (rdN_len _ _ _)
theorem rdC_lt (n : Nat) (l : List Nat) (bad : Bool) : ∀ i ∈ (rdC n l bad).1, i.op < 18446744073709551616 ∧ i.a < 18446744073709551616 ∧ i.b < 18446744073709551616 ∧ i.c < 18446744073709551616 := grp_lt _ (rdN_lt _ _ _)
theorem rdC_rest (n : Nat) (l : List Nat) (bad : Bool) : (∀ x ∈ (rdC n l bad).2.1, x ∈ l) ∧ (rdC n l bad).2.1.length ≤ l.length := rdN_rest (4 * n) l bad
theorem getN_rest (l : List Nat) (bad : Bool) : (∀ x ∈ (getN l bad).2.1, x ∈ l) ∧ (getN l bad).2.1.length ≤ l.length := by
  obtain ⟨h1, h2⟩ := rdN_rest (cutN (rdG l bad).1 (rdG l bad).2.1.length) (rdG l bad).2.1 (rdG l bad).2.2
  exact ⟨fun x hx => rdG_rest _ _ x (h1 x hx), Nat.le_trans h2 (rdG_len _ _)⟩
theorem getN_len (l : List Nat) (bad : Bool) : (getN l bad).1.length ≤ l.length + 1 := by
  unfold getN
  rw [rdN_len]
  have := cutN_le (rdG l bad).1 (rdG l bad).2.1.length
  have := rdG_len l bad
  omega
theorem getN_lt (l : List Nat) (bad : Bool) : ∀ x ∈ (getN l bad).1, x < 18446744073709551616 := rdN_lt _ _ _
theorem getC_len (l : List Nat) (bad : Bool) : (getC l bad).1.length ≤ l.length + 1 := by
  unfold getC
  rw [rdC_len]
  have := cutN_le (rdG l bad).1 (rdG l bad).2.1.length
  have := rdG_len l bad
  omega
theorem getC_rest (l : List Nat) (bad : Bool) : (∀ x ∈ (getC l bad).2.1, x ∈ l) ∧ (getC l bad).2.1.length ≤ l.length := by
  obtain ⟨h1, h2⟩ := rdC_rest (cutN (rdG l bad).1 (rdG l bad).2.1.length) (rdG l bad).2.1 (rdG l bad).2.2
  exact ⟨fun x hx => rdG_rest _ _ x (h1 x hx), Nat.le_trans h2 (rdG_len _ _)⟩
theorem getN_lst {l : List Nat} (r : List Nat) (bad : Bool) (h : l.length < 18446744073709551616 ∧ ∀ n ∈ l, n < 18446744073709551616) : getN (lst l ++ r) bad = (l, r, bad) := by
  unfold getN lst
  rw [List.append_assoc, rdG_uv h.1]
  dsimp only
  rw [show cutN l.length (nums l ++ r).length = l.length by unfold cutN; rw [if_neg]; rw [List.length_append]; have := (nums_len l).1; omega]
  exact rdN_nums l r bad h.2
theorem getC_lst {c : List Ins} (r : List Nat) (bad : Bool) (h : c.length < 18446744073709551616 ∧ ∀ i ∈ c, i.op < 18446744073709551616 ∧ i.a < 18446744073709551616 ∧ i.b < 18446744073709551616 ∧ i.c < 18446744073709551616) : getC (lstC c ++ r) bad = (c, r, bad) := by
  unfold getC lstC
  rw [List.append_assoc, rdG_uv h.1]
  dsimp only
  have hl := flds_len c
  rw [show cutN c.length (nums (flds c) ++ r).length = c.length by unfold cutN; rw [if_neg]; rw [List.length_append]; have := (nums_len (flds c)).1; omega]
  unfold rdC
  rw [← hl, rdN_nums _ r bad (flds_lt h.2)]
  dsimp only
  rw [grp_flds]
/-- a program out of bytes, what is left, whether it is spoilt -/
def decF (l : List Nat) : PD × List Nat × Bool :=
  let a := getN l false
  let b := getN a.2.1 a.2.2
  let c := getN b.2.1 b.2.2
  let d := getN c.2.1 c.2.2
  let e := getN d.2.1 d.2.2
  let f := getC e.2.1 e.2.2
  (⟨a.1, b.1, c.1, d.1, e.1, f.1⟩, f.2)
theorem dec_enc {p : PD} (h : Res p) (r : List Nat) : decF (tailB p ++ r) = (p, r, false) := by
  unfold decF tailB
  simp only [List.append_assoc, getN_lst _ _ h.ins, getN_lst _ _ h.outs, getN_lst _ _ h.slots, getN_lst _ _ h.mems, getN_lst _ _ h.consts, getC_lst _ _ h.code]
/-- how many numbers -/
def totN (p : PD) : Nat := p.ins.length + (p.outs.length + (p.slots.length + (p.mems.length + (p.consts.length + 4 * p.code.length))))
theorem lst_len (l : List Nat) : (lst l).length ≤ 10 * l.length + 10 := by
  unfold lst
  rw [List.length_append]
  have := (uv_len l.length).2
  have := (nums_len l).2
  omega
theorem tail_len (p : PD) : (tailB p).length ≤ 10 * totN p + 60 := by
  unfold tailB totN lstC
  simp only [List.length_append]
  have h1 := lst_len p.ins
  have h2 := lst_len p.outs
  have h3 := lst_len p.slots
  have h4 := lst_len p.mems
  have h5 := lst_len p.consts
  have h6 := (uv_len p.code.length).2
  have h7 := (nums_len (flds p.code)).2
  have h8 := flds_len p.code
  omega
end Go.Plain
