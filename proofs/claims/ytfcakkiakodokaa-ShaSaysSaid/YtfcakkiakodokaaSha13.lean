/- What is proved: ShaApart's walk. Conditions: rounds, roots and primes are told. -/
import Derived.Test.YtfcakkiakodokaaSha11
set_option linter.unusedVariables false
set_option linter.unusedSimpArgs false
set_option linter.unusedSectionVars false
namespace Go.Proofs.Ytfcakkiakodokaa
open Go.Eng
set_option autoImplicit false
set_option maxRecDepth 100000
variable {nat : ∀ [Deep], Nats} {F : List Nat → List Nat → List Nat}
theorem ltN_neg {n : Nat} (h : 9223372036854775807 < n) : ltN .i64 n 0 = true := by
  have h1 : nneg .i64 n = false := by
    cases hq : nneg .i64 n with
    | false => rfl
    | true => exact absurd (ble_true.1 hq) (by show ¬ Nat.succ n ≤ 9223372036854775808; omega)
  have h2 : nneg .i64 0 = true := rfl
  unfold ltN
  rw [h1, h2]; rfl
@[go_sem] theorem good4 : goodEq Try.prog 4 false = true := by kernel_rfl
theorem eq4 (p : Bool) : (eqB Try.prog 4).f (.bool p) (.bool p) = some true := by cases p <;> kernel_rfl
theorem of_then (X : Ctx2 nat F) {η : HN} {z : AV} {l : List Nat} {Q : AV → HN → Prop} (hz : RdBk η [] z l) (hm : l.length ≤ 549755813888) (h : ∀ η', ExtB η.nx η η' → Q (.agg (u8s (shaF F l))) η') : ∃ v η', CallN Try.prog nat 10 [z] η v η' ∧ Q v η' := by
  obtain ⟨v, η', k, rfl, E⟩ := of_spec X.base η z l hz hm
  exact ⟨_, η', k, h η' E⟩
theorem ref_then (X : Ctx2 nat F) {η : HN} {z : AV} {l : List Nat} {Q : AV → HN → Prop} (hz : RdBk η [] z l) (hm : l.length ≤ 549755813888) (h : ∀ η', ExtB η.nx η η' → Q (.agg (u8s (shaF F l))) η') : ∃ v η', CallN Try.prog nat 11 [z] η v η' ∧ Q v η' := by
  obtain ⟨v, η', k, rfl, E⟩ := ref_spec X η z l hz hm
  exact ⟨_, η', k, h η' E⟩
set_option maxHeartbeats 2000000 in
theorem apart_spec (X : Ctx2 nat F) (h6 : ∀ [Deep], nat 6 = none) (h8 : ∀ [Deep], nat 8 = some trueNat) (η : HN) (z : AV) (l : List Nat) (n : Nat) (hz : ArgB η z l) (hl : l.length ≤ 9223372036854775807) (hn : n < 18446744073709551616) :
    ∃ v η', CallN Try.prog nat 6 [z, .int .i64 n] η v η' ∧ v = .bool true := by
  refine call_of (PT := pl6) Try.func6 rfl h6 ok6 rfl ?_
  simp -implicitDefEqProofs (disch := omega) only [go_sem]
  refine thenN_call ⟨_, _, callN_true h8, ?_⟩
  have hzl : ∀ η', lenN (.slice 5 1 1) z η' = .ok (.int .i64 l.length) η' := fun η' => hz.len (η' := η') (e := 5) (y := 1) hl
  by_cases l1 : l.length < 1
  · simp -implicitDefEqProofs (disch := omega) only [go_sem, hzl]
  by_cases l5 : 500 < l.length
  · simp -implicitDefEqProofs (disch := omega) only [go_sem, hzl]
  by_cases hb : 9223372036854775807 < n
  · have hlt : ltN .i64 n 0 = true := ltN_neg hb
    simp -implicitDefEqProofs (disch := omega) only [go_sem, hzl, hlt]
  by_cases hb2 : 8 * l.length ≤ n
  · simp -implicitDefEqProofs (disch := omega) only [go_sem, hzl]
  have E0 : ExtB η.nx η (η.new (.live false [])) := .new (Nat.le_refl _)
  obtain ⟨x1, η1, e1, o1, E1, _⟩ := app_own (base := η.nx) (x := .slice η.nx 0 0 (.kn 0)) (l := []) (η := η.new (.live false [])) ⟨η.nx, Nat.le_refl _, Nat.lt_succ_self _, .inl ⟨rfl, rfl, [], by show (if η.nx = η.nx then _ else _) = _; rw [if_pos rfl]⟩⟩ (hz.rd (bad := []) E0 (by simp)).rdB (by simp; omega)
  rw [List.nil_append] at o1
  obtain ⟨b1, hb1, hb1', rfl, o2⟩ := own_un o1 (by intro h; rw [h] at l1; simp at l1)
  have E01 := E0.trans E1
  have hi : n / 8 < l.length := by omega
  have h8l := u8s_length l
  have hg : (u8s l)[n / 8]? = some (.int .u8 (l.getD (n / 8) 0)) := by unfold u8s; simp [List.getD_eq_getElem?_getD, List.getElem?_eq_getElem, hi]
  simp -implicitDefEqProofs (disch := omega) only [go_sem, hzl, e1, o2, hg]
  rw [u8s_set]
  have hlc : (l.set (n / 8) (l.getD (n / 8) 0 ^^^ shlN .u8 1 (n % 8))).length = l.length := List.length_set
  generalize l.set (n / 8) (l.getD (n / 8) 0 ^^^ shlN .u8 1 (n % 8)) = lc at *
  have c2 : (η1.put b1 (.live false (u8s lc))).f b1 = .live false (u8s lc) := by show (if b1 = b1 then _ else _) = _; rw [if_pos rfl]
  have E2 : ExtB η.nx η (η1.put b1 (.live false (u8s lc))) := E01.trans (.put hb1)
  have n2 : b1 < (η1.put b1 (.live false (u8s lc))).nx := hb1'
  have hnx2 : (η1.put b1 (.live false (u8s lc))).nx = η1.nx := rfl
  rw [← hnx2]
  generalize η1.put b1 (.live false (u8s lc)) = η2 at *
  clear e1 o2 E1 E01 E0 hg hi hnx2 hb1' o1
  have w2 := E2.1
  have E2n : ExtB η2.nx η2 (η2.new (.live false [])) := .new (Nat.le_refl _)
  obtain ⟨x3, η3, e3, o3, E3, _⟩ := app_own (base := η2.nx) (x := .slice η2.nx 0 0 (.kn 0)) (l := []) (η := η2.new (.live false [])) ⟨η2.nx, Nat.le_refl _, Nat.lt_succ_self _, .inl ⟨rfl, rfl, [], by show (if η2.nx = η2.nx then _ else _) = _; rw [if_pos rfl]⟩⟩ (hz.rd (bad := []) (E2.trans (E2n.mono w2)) (by simp)).rdB (by simp; omega)
  rw [List.nil_append] at o3
  have E23 := E2n.trans E3
  obtain ⟨x4, η4, e4, o4, E4, _⟩ := app_own (base := η2.nx) (y := .slice η3.nx 0 1 (.kn 1)) (m := [0]) (own_ext o3 E23.1 (.new (Nat.le_refl _))) rd_one (by simp; omega)
  have E24 := (E23.trans (.new E23.1)).trans E4
  obtain ⟨b4, hb4, hb4', rfl, o5⟩ := own_un o4 (by simp)
  simp -implicitDefEqProofs (disch := omega) only [go_sem, hzl, e3, e4]
  have c4 : η4.f b1 = .live false (u8s lc) := (E24.2 b1 n2).trans c2
  have n4 : b1 < η4.nx := by have := E24.1; omega
  have E04 : ExtB η.nx η η4 := E2.trans (E24.mono w2)
  clear e3 e4 o3 o4 E3 E4 E23 E24 E2n c2 n2 E2 w2 hb4
  have rb : ∀ {η' : HN}, ExtB η4.nx η4 η' → RdBk η' [] z l := fun h => hz.rd (bad := []) (E04.trans (h.mono E04.1)) (by simp)
  have rc : ∀ {η' : HN}, ExtB η4.nx η4 η' → RdBk η' [] (.slice b1 0 l.length (.un 1)) lc := fun h => .inr ⟨b1, 0, l.length, .un 1, rfl, ⟨hlc.symm, rfl, false, _, (h.2 b1 n4).trans c4, by rw [u8s_length]; omega, by rw [List.drop_zero, List.take_of_length_le (by rw [u8s_length]; omega)]⟩, by have := h.1; omega, by simp⟩
  have rd : ∀ {η' : HN}, ExtB η4.nx η4 η' → RdBk η' [] (.slice b4 0 (l ++ [0]).length (.un 1)) (l ++ [0]) := fun h => .inr ⟨b4, 0, _, .un 1, rfl, ⟨rfl, rfl, false, _, (h.2 b4 hb4').trans o5, by rw [u8s_length]; omega, by rw [List.drop_zero, List.take_of_length_le (by rw [u8s_length]; omega)]⟩, by have := h.1; omega, by simp⟩
  have hld : (l ++ [0]).length = l.length + 1 := by simp
  generalize l ++ [0] = ld at *
  rw [hld] at rd
  have lb : l.length ≤ 549755813888 := by omega
  have lcb : lc.length ≤ 549755813888 := by omega
  have ldb : ld.length ≤ 549755813888 := by omega
  have E44 : ExtB η4.nx η4 η4 := .refl _ _
  obtain ⟨v5, η5, k5, rfl, F5⟩ := ref_spec X η4 z l (rb E44) lb
  refine thenN_call ⟨_, η5, k5, ?_⟩
  simp -implicitDefEqProofs (disch := omega) only [go_sem]
  obtain ⟨v6, η6, k6, rfl, F6⟩ := ref_spec X η5 _ lc (rc F5) lcb
  have G6 := F5.trans (F6.mono F5.1)
  refine thenN_call ⟨_, η6, k6, ?_⟩
  have u1 : (u8s (shaF F l)).length = 32 := by rw [u8s_length, sha_len]
  have u2 : (u8s (shaF F lc)).length = 32 := by rw [u8s_length, sha_len]
  have u3 : (u8s (shaF F ld)).length = 32 := by rw [u8s_length, sha_len]
  have ur : (List.replicate 32 (AV.int .u8 0)).length = 32 := rfl
  simp -implicitDefEqProofs (disch := omega) only [go_sem, u1, u2, ur]
  have x7 : ((((η6.new (.live false (List.replicate 32 (.int .u8 0)))).new (.live false (List.replicate 32 (.int .u8 0)))).put η6.nx (.live false (u8s (shaF F l)))).put (η6.nx + 1) (.live false (u8s (shaF F lc)))).f η6.nx = .live false (u8s (shaF F l)) := by
    show (if η6.nx = η6.nx + 1 then _ else if η6.nx = η6.nx then _ else _) = _; rw [if_neg (by omega), if_pos rfl]
  have y7 : ((((η6.new (.live false (List.replicate 32 (.int .u8 0)))).new (.live false (List.replicate 32 (.int .u8 0)))).put η6.nx (.live false (u8s (shaF F l)))).put (η6.nx + 1) (.live false (u8s (shaF F lc)))).f (η6.nx + 1) = .live false (u8s (shaF F lc)) := by
    show (if η6.nx + 1 = η6.nx + 1 then _ else _) = _; rw [if_pos rfl]
  have g4 := G6.1
  have G7 : ExtB η4.nx η4 ((((η6.new (.live false (List.replicate 32 (.int .u8 0)))).new (.live false (List.replicate 32 (.int .u8 0)))).put η6.nx (.live false (u8s (shaF F l)))).put (η6.nx + 1) (.live false (u8s (shaF F lc)))) :=
    (((G6.trans (.new g4)).trans (.new (by show η4.nx ≤ η6.nx + 1; omega))).trans (.put g4)).trans (.put (by omega))
  have n7 : ((((η6.new (.live false (List.replicate 32 (.int .u8 0)))).new (.live false (List.replicate 32 (.int .u8 0)))).put η6.nx (.live false (u8s (shaF F l)))).put (η6.nx + 1) (.live false (u8s (shaF F lc)))).nx = η6.nx + 2 := rfl
  generalize (((η6.new (.live false (List.replicate 32 (.int .u8 0)))).new (.live false (List.replicate 32 (.int .u8 0)))).put η6.nx (.live false (u8s (shaF F l)))).put (η6.nx + 1) (.live false (u8s (shaF F lc))) = η7 at *
  generalize hq : η6.nx = q at *
  refine dE_call (of_then X (rb (G7.at_ (by omega))) lb fun η8 F8 => ?_)
  have e8q : q + 33 ≤ η8.nx := by have := F8.1; simp only [HN.at_] at this; omega
  have e8 : η7.nx ≤ η8.nx := by have := F8.1; simp only [HN.at_] at this; omega
  have G8 : ExtB η4.nx η4 η8 := ⟨by omega, fun b hb => by rw [F8.2 b (by show b < _ ; simp only [HN.at_]; omega)]; exact G7.2 b hb⟩
  have x8 : η8.f q = .live false (u8s (shaF F l)) := by rw [F8.2 q (by simp only [HN.at_]; omega)]; exact x7
  have y8 : η8.f (q + 1) = .live false (u8s (shaF F lc)) := by rw [F8.2 (q + 1) (by simp only [HN.at_]; omega)]; exact y7
  simp -implicitDefEqProofs (disch := omega) only [go_sem, u1, u2]
  refine dE_call (of_then X (rc G8) lcb fun η9 F9 => ?_)
  have e9 := F9.1
  have G9 : ExtB η4.nx η4 η9 := G8.trans (F9.mono G8.1)
  have x9 : η9.f q = .live false (u8s (shaF F l)) := by rw [F9.2 q (by omega)]; exact x8
  have y9 : η9.f (q + 1) = .live false (u8s (shaF F lc)) := by rw [F9.2 (q + 1) (by omega)]; exact y8
  simp -implicitDefEqProofs (disch := omega) only [go_sem, u1, u2, x9, y9, x8, y8, x7, y7, eq24 (sha_len l) (sha_len lc), eq4]
  refine dE_call (of_then X (rb G9) lb fun η10 F10 => ?_)
  have e10 := F10.1
  have G10 : ExtB η4.nx η4 η10 := G9.trans (F10.mono G9.1)
  have x10 : η10.f q = .live false (u8s (shaF F l)) := by rw [F10.2 q (by omega)]; exact x9
  have y10 : η10.f (q + 1) = .live false (u8s (shaF F lc)) := by rw [F10.2 (q + 1) (by omega)]; exact y9
  simp -implicitDefEqProofs (disch := omega) only [go_sem, u1, u2, x10, y10, x9, y9, x8, y8, x7, y7]
  refine dE_call (of_then X (rd G10) ldb fun η11 F11 => ?_)
  have e11 := F11.1
  have G11 : ExtB η4.nx η4 η11 := G10.trans (F11.mono G10.1)
  have x11 : η11.f q = .live false (u8s (shaF F l)) := by rw [F11.2 q (by omega)]; exact x10
  have y11 : η11.f (q + 1) = .live false (u8s (shaF F lc)) := by rw [F11.2 (q + 1) (by omega)]; exact y10
  simp -implicitDefEqProofs (disch := omega) only [go_sem, u1, u2, x11, y11, x10, y10, x9, y9, x8, y8, x7, y7, eq24 (sha_len l) (sha_len ld)]
  refine dE_call (ref_then X (rd G11) ldb fun η12 F12 => ?_)
  have e12 := F12.1
  have G12 : ExtB η4.nx η4 η12 := G11.trans (F12.mono G11.1)
  have x12 : η12.f q = .live false (u8s (shaF F l)) := by rw [F12.2 q (by omega)]; exact x11
  have y12 : η12.f (q + 1) = .live false (u8s (shaF F lc)) := by rw [F12.2 (q + 1) (by omega)]; exact y11
  simp -implicitDefEqProofs (disch := omega) only [go_sem, u1, u2, x12, y12, x11, y11, x10, y10, x9, y9, x8, y8, x7, y7, eq24 (sha_len l) (sha_len ld), eq24 (sha_len l) (sha_len lc), eq4]
  refine dE_call (of_then X (rb G12) lb fun η13 F13 => ?_)
  have e13 := F13.1
  have G13 : ExtB η4.nx η4 η13 := G12.trans (F13.mono G12.1)
  have x13 : η13.f q = .live false (u8s (shaF F l)) := by rw [F13.2 q (by omega)]; exact x12
  have y13 : η13.f (q + 1) = .live false (u8s (shaF F lc)) := by rw [F13.2 (q + 1) (by omega)]; exact y12
  simp -implicitDefEqProofs (disch := omega) only [go_sem, u1, u2, x13, y13, x12, y12, x11, y11, x10, y10, x9, y9, x8, y8, x7, y7]
  have G14 : ExtB η4.nx η4 (((η13.at_ (q + 1 + 1 + (1 + 1 + 1 + 1 + 1 + 1 + 1 + 1 + 1 + 1 + 1 + 1 + 1 + 1 + 1 + 1 + 1 + 1 + 1 + 1 + 1 + 1 + 1 + 1))).new (.live false [])).at_ η13.nx) := ⟨by show η4.nx ≤ η13.nx; omega, fun b hb => by show (if b = q + 1 + 1 + (1 + 1 + 1 + 1 + 1 + 1 + 1 + 1 + 1 + 1 + 1 + 1 + 1 + 1 + 1 + 1 + 1 + 1 + 1 + 1 + 1 + 1 + 1 + 1) then _ else _) = _; rw [if_neg (by omega)]; exact G13.2 b hb⟩
  obtain ⟨z14, η14, k14, o14, E14, _⟩ := app_own (base := q + 1 + 1 + (1 + 1 + 1 + 1 + 1 + 1 + 1 + 1 + 1 + 1 + 1 + 1 + 1 + 1 + 1 + 1 + 1 + 1 + 1 + 1 + 1 + 1 + 1 + 1)) (x := .slice (q + 1 + 1 + (1 + 1 + 1 + 1 + 1 + 1 + 1 + 1 + 1 + 1 + 1 + 1 + 1 + 1 + 1 + 1 + 1 + 1 + 1 + 1 + 1 + 1 + 1 + 1)) 0 0 (.kn 0)) (l := []) (y := z) (m := l) (η := ((η13.at_ (q + 1 + 1 + (1 + 1 + 1 + 1 + 1 + 1 + 1 + 1 + 1 + 1 + 1 + 1 + 1 + 1 + 1 + 1 + 1 + 1 + 1 + 1 + 1 + 1 + 1 + 1))).new (.live false [])).at_ η13.nx) ⟨q + 1 + 1 + (1 + 1 + 1 + 1 + 1 + 1 + 1 + 1 + 1 + 1 + 1 + 1 + 1 + 1 + 1 + 1 + 1 + 1 + 1 + 1 + 1 + 1 + 1 + 1), Nat.le_refl _, by show q + 1 + 1 + (1 + 1 + 1 + 1 + 1 + 1 + 1 + 1 + 1 + 1 + 1 + 1 + 1 + 1 + 1 + 1 + 1 + 1 + 1 + 1 + 1 + 1 + 1 + 1) < η13.nx; omega, .inl ⟨rfl, rfl, [], by show (if q + 1 + 1 + (1 + 1 + 1 + 1 + 1 + 1 + 1 + 1 + 1 + 1 + 1 + 1 + 1 + 1 + 1 + 1 + 1 + 1 + 1 + 1 + 1 + 1 + 1 + 1) = q + 1 + 1 + (1 + 1 + 1 + 1 + 1 + 1 + 1 + 1 + 1 + 1 + 1 + 1 + 1 + 1 + 1 + 1 + 1 + 1 + 1 + 1 + 1 + 1 + 1 + 1) then _ else _) = _; rw [if_pos rfl]⟩⟩ (rb G14).rdB (by simp; omega)
  rw [List.nil_append] at o14
  obtain ⟨b14, q14, q14', rfl, r14⟩ := own_un o14 (by intro h; rw [h] at l1; simp at l1)
  have e14 : η13.nx ≤ η14.nx := E14.1
  have x14 : η14.f q = .live false (u8s (shaF F l)) := by
    rw [E14.2 q (by omega)]; show (if q = q + 1 + 1 + (1 + 1 + 1 + 1 + 1 + 1 + 1 + 1 + 1 + 1 + 1 + 1 + 1 + 1 + 1 + 1 + 1 + 1 + 1 + 1 + 1 + 1 + 1 + 1) then _ else _) = _; rw [if_neg (by omega)]; exact x13
  have y14 : η14.f (q + 1) = .live false (u8s (shaF F lc)) := by
    rw [E14.2 (q + 1) (by omega)]; show (if q + 1 = q + 1 + 1 + (1 + 1 + 1 + 1 + 1 + 1 + 1 + 1 + 1 + 1 + 1 + 1 + 1 + 1 + 1 + 1 + 1 + 1 + 1 + 1 + 1 + 1 + 1 + 1) then _ else _) = _; rw [if_neg (by omega)]; exact y13
  have rx : RdBk η14 [] (.slice b14 0 l.length (.un 1)) l := .inr ⟨b14, 0, _, .un 1, rfl, ⟨rfl, rfl, false, _, r14, by rw [u8s_length]; omega, by rw [List.drop_zero, List.take_of_length_le (by rw [u8s_length]; omega)]⟩, q14', by simp⟩
  simp -implicitDefEqProofs (disch := omega) only [go_sem, u1, u2, k14, x14, y14, x13, y13, x12, y12, x11, y11, x10, y10, x9, y9, x8, y8, x7, y7]
  refine dE_call (of_then X rx lb fun η15 F15 => ?_)
  have e15 := F15.1
  have x15 : η15.f q = .live false (u8s (shaF F l)) := by rw [F15.2 q (by omega)]; exact x14
  have y15 : η15.f (q + 1) = .live false (u8s (shaF F lc)) := by rw [F15.2 (q + 1) (by omega)]; exact y14
  simp -implicitDefEqProofs (disch := omega) only [go_sem, u1, u2, x15, y15, x14, y14, x13, y13, x12, y12, x11, y11, x10, y10, x9, y9, x8, y8, x7, y7, eq24 (sha_len l) (sha_len l), eq24 (sha_len l) (sha_len ld), eq24 (sha_len l) (sha_len lc), eq4]
end Go.Proofs.Ytfcakkiakodokaa
