/- What is proved: EmitDelays, walked. Conditions: as each theorem says. -/
import Derived.Test.YtgccjneplchojaaGreatDoorMacC
import Derived.Test.YtgccjneplchojaaGreatDoorReadK
set_option linter.unusedVariables false
set_option linter.unusedSimpArgs false
set_option linter.unusedSectionVars false
namespace Go.Proofs.YtgccjneplchojaaGreatDoor
open Go.Eng Go.Plain
set_option autoImplicit false
set_option maxRecDepth 100000
variable {nat : ∀ [Deep], Nats}
attribute [local irreducible] wpN
@[go_sem] theorem opd_pre {φ : FN} : opd φ (.const (.string ⟨#[110, 111, 100, 101, 32, 102, 40, 120, 58, 32, 105, 110, 116, 41, 32, 114, 101, 116, 117, 114, 110, 115, 32, 40, 121, 58, 32, 105, 110, 116, 41, 59, 32, 108, 101, 116, 32, 121, 32, 61, 32]⟩)) = .str 41 68861609194017069083988113057320865535313193906311919422776418230926504756792123069761326370025326 := rfl
@[go_sem] theorem opd_fby {φ : FN} : opd φ (.const (.string ⟨#[53, 32, 102, 98, 121, 32]⟩)) = .str 6 35705713991733 := rfl
@[go_sem] theorem opd_tel {φ : FN} : opd φ (.const (.string ⟨#[59, 32, 116, 101, 108]⟩)) = .str 5 465558577211 := rfl
@[go_sem] theorem opd_x {φ : FN} : opd φ (.const (.string ⟨#[120]⟩)) = .str 1 120 := rfl
def preL : List Nat := [110, 111, 100, 101, 32, 102, 40, 120, 58, 32, 105, 110, 116, 41, 32, 114, 101, 116, 117, 114, 110, 115, 32, 40, 121, 58, 32, 105, 110, 116, 41, 59, 32, 108, 101, 116, 32, 121, 32, 61, 32]
def telL : List Nat := [59, 32, 116, 101, 108]
def fbyL : List Nat := [53, 32, 102, 98, 121, 32]
def delayL : Nat → List Nat
  | 0 => [120]
  | n + 1 => fbyL ++ delayL n
def textL (n : Nat) : List Nat := preL ++ delayL n ++ telL
theorem bV_app : ∀ l k : List Nat, bV (l ++ k) = bV l + 256 ^ l.length * bV k
  | [], k => by simp [bV]
  | a :: l, k => by
    show a + 256 * bV (l ++ k) = a + 256 * bV l + 256 ^ (l.length + 1) * bV k
    rw [bV_app l k, Nat.pow_succ, Nat.mul_add]
    have : 256 * (256 ^ l.length * bV k) = 256 ^ l.length * 256 * bV k := by rw [Nat.mul_comm (256 ^ l.length) 256, Nat.mul_assoc]
    omega
theorem cat_bV (l k : List Nat) : strCat l.length (bV l) (bV k) = bV (l ++ k) := by
  rw [bV_app]
  unfold strCat
  show bV l + bV k <<< (8 * l.length) = _
  rw [Nat.shiftLeft_eq, Nat.pow_mul, Nat.mul_comm]
theorem ltN_big {n m : Nat} (h : 9223372036854775807 < n) (hm : m < 9223372036854775808) : ltN .i64 n m = true := by
  have h1 : nneg .i64 n = false := by
    cases hq : nneg .i64 n with
    | false => rfl
    | true => exact absurd (ble_true.1 hq) (by show ¬ Nat.succ n ≤ 9223372036854775808; omega)
  have h2 : nneg .i64 m = true := ble_true.2 (show Nat.succ m ≤ 9223372036854775808 by omega)
  unfold ltN
  rw [h1, h2]; rfl
abbrev nilP : List AV := [.nilslice, .nilslice, .nilslice, .nilslice, .nilslice, .nilslice]
theorem delayL_len : ∀ n, (delayL n).length = 6 * n + 1
  | 0 => rfl
  | n + 1 => by show (fbyL ++ delayL n).length = _; rw [List.length_append, delayL_len n]; show 6 + _ = _; omega
/-- what is known of the programs that are made -/
structure Made (nat : ∀ [Deep], Nats) : Prop where
  h22 : ∀ [Deep], nat 22 = some trueNat
  made : ∀ n, n ≤ 20 → ∃ p : PD, Delays p n ∧ Fine p ∧ (checkF p).2 = 0 ∧ p.ins = [2] ∧ List.replicate p.mems.length 0 = memV n (fun _ => 0) 0 ∧
    ∀ (η : HN) (Q : AV → HN → Prop), (∀ z η', IsP η' z p → ExtB η.nx η η' → Q (.tup [.agg z.cells, .bool true, .int .i64 0]) η') → ∃ v η', CallN Tryz.prog nat 23 [.str (textL n).length (bV (textL n))] η v η' ∧ Q v η'
theorem fit1 (a : Nat) : fitF [2] [a] = true := rfl
set_option maxHeartbeats 4000000 in
theorem delays_spec (U : Usual nat) (M : Made nat) (η : HN) (n : Nat) (y : AV) (x : List Nat) (hn : n < 18446744073709551616) (hy : RdI .i64 η y x) (hl : x.length ≤ 9223372036854775807) (hx : ∀ a ∈ x, a < 18446744073709551616) :
    ∃ v η', CallN Tryz.prog nat 9 [.int .i64 n, y] η v η' ∧ v = .bool true := by
  have hbody : Tryz.f9.body = some _ := rfl
  refine @call_of Tryz.prog nat pl9 9 Tryz.f9 _ _ [.int .i64 n, y] η Tryz.func9 hbody (U 9 (by decide)) ok9 rfl ?_
  clear hbody
  simp -implicitDefEqProofs (disch := omega) only [go_sem]
  refine thenN_call ⟨_, _, callN_true M.h22, ?_⟩
  have ly := rdI_len9 hy hl
  by_cases hneg : 9223372036854775807 < n
  · have hlt : ltN .i64 n 0 = true := ltN_big hneg (by decide)
    simp -implicitDefEqProofs (disch := omega) only [go_sem, Bool.not_true, hlt]
  by_cases hbig : 20 < n
  · simp -implicitDefEqProofs (disch := omega) only [go_sem, Bool.not_true, ly]
  by_cases hlong : 40 < x.length
  · simp -implicitDefEqProofs (disch := omega) only [go_sem, Bool.not_true, ly]
  simp -implicitDefEqProofs (disch := omega) only [go_sem, Bool.not_true, ly]
  obtain ⟨I, hI⟩ : ∃ I : Nat → FN → HN → Prop, ∀ m φ ζ, I m φ ζ ↔ ∃ i, m = n - i ∧ i ≤ n ∧ φ 0 = .int .i64 n ∧ φ 1 = y ∧ φ 6 = .int .i64 i ∧ φ 5 = .str (delayL i).length (bV (delayL i)) ∧ ζ = η := ⟨_, fun _ _ _ => Iff.rfl⟩
  refine wpN_loop I n ((hI _ _ _).2 ⟨0, rfl, Nat.zero_le _, rfl, rfl, rfl, rfl, rfl⟩) ?_
  intro m φ ζ hi
  obtain ⟨i, hm, hi, p0, p1, p6, p5, rfl⟩ := (hI _ _ _).1 hi
  have dln := delayL_len i
  by_cases hlt : i < n
  · have hc : strCat 6 35705713991733 (bV (delayL i)) = bV (delayL (i + 1)) := cat_bV fbyL (delayL i)
    have el : 6 + (delayL i).length = (delayL (i + 1)).length := by rw [delayL_len, delayL_len]; omega
    simp -implicitDefEqProofs (disch := omega) only [go_sem, p0, p1, p5, p6, hc, el]
    exact ⟨n - (i + 1), by omega, (hI _ _ _).2 ⟨i + 1, rfl, by omega, p0, p1, rfl, rfl, rfl⟩⟩
  obtain rfl : n = i := by omega
  have hc1 : strCat 41 68861609194017069083988113057320865535313193906311919422776418230926504756792123069761326370025326 (bV (delayL n)) = bV (preL ++ delayL n) := cat_bV preL (delayL n)
  have hc2 : strCat (41 + (delayL n).length) (bV (preL ++ delayL n)) 465558577211 = bV (textL n) := by
    have := cat_bV (preL ++ delayL n) telL
    rw [List.length_append] at this
    exact this
  have el2 : 41 + (delayL n).length + 5 = (textL n).length := by unfold textL; rw [List.length_append, List.length_append]; rfl
  obtain ⟨p, dl, hf, hck, hins, hmem, hcall⟩ := M.made n (by omega)
  simp -implicitDefEqProofs (disch := omega) only [go_sem, p0, p1, p5, p6, hc1, hc2, el2]
  refine thenN_call (hcall _ _ fun z η2 hp E2 => ?_)
  simp -implicitDefEqProofs (disch := omega) only [go_sem, p0, p1]
  generalize hζ3 : (η2.new (.live false [.nilslice, .nilslice, .nilslice, .nilslice, .nilslice, .nilslice])).put η2.nx (.live false [z.z1, z.z2, z.z3, z.z4, z.z5, z.z6]) = ζ3 at *
  have E3 : ExtB η2.nx η2 ζ3 := by rw [← hζ3]; exact extP (extN (.refl _ _))
  have H3 := held_0 (hp.ext E3)
  refine thenN_call (refnew_then U H3 hf fun mp mb η4 M4 hmp hmb E4 => ?_)
  rw [hmem] at M4
  have F4 := (E2.trans (E3.mono E2.1)).trans (E4.mono (Nat.le_trans E2.1 E3.1))
  have n23 := Nat.le_trans E2.1 E3.1
  clear hI dln hi
  simp -implicitDefEqProofs (disch := omega) only [go_sem, p0, p1]
  obtain ⟨I, hI⟩ : ∃ I : Nat → FN → HN → Prop, ∀ m φ ζ', I m φ ζ' ↔ ∃ i, m = x.length - i ∧ i ≤ x.length ∧ φ 0 = .int .i64 n ∧ φ 1 = y ∧ φ 10 = .ptr mp 0 ∧ φ 11 = .int .i64 i ∧ MachAt 0 ζ3.nx ζ' mp mb z p (memD n x i) i ∧ KOk p.mems (memD n x i) ∧ ExtB ζ3.nx ζ3 ζ' := ⟨_, fun _ _ _ => Iff.rfl⟩
  refine wpN_loop I x.length ((hI _ _ _).2 ⟨0, rfl, Nat.zero_le _, p0, p1, rfl, rfl, M4, ?_, E4⟩) ?_
  · show KOk p.mems (memV n (fun _ => 0) 0)
    rw [← hmem]
    exact KOk.zero _
  clear p0 p1 p5 p6 hm
  intro m φ ζ' hi
  obtain ⟨i, hm, hi, p0, p1, p10, p11, M5, K5, E5⟩ := (hI _ _ _).1 hi
  have n5 := E5.1
  have F5 := (E2.trans (E3.mono E2.1)).trans (E5.mono n23)
  by_cases hlt : i < x.length
  · obtain ⟨b, off, cap, ro, row, ye, hb, hbn, hr⟩ := (rdI_ext hy F5).at hlt
    simp -implicitDefEqProofs (disch := omega) only [go_sem, p0, p1, p10, p11, ly, ye, hb, hr]
    have nw : ∀ b', b' < ζ'.nx → (ζ'.new (.live false [.int .i64 x[i]])).f b' = ζ'.f b' := fun b' hb' => by show (if b' = ζ'.nx then _ else _) = _; rw [if_neg (by omega)]
    have nn : (ζ'.new (.live false [AV.int .i64 x[i]])).nx = ζ'.nx + 1 := rfl
    have M6 := M5.keep (η' := ζ'.new (.live false [.int .i64 x[i]])) (Nat.le_succ _) fun b' hb' _ => nw b' hb'
    have h1 := M5.at_
    have h2 := M5.mat
    have hst : Stays (ζ'.new (.live false [.int .i64 x[i]])) mp mb (.slice ζ'.nx 0 1 (.kn 1)) [x[i]] := fun η' hn' hk' => .inr ⟨ζ'.nx, 0, .kn 1, false, [.int .i64 x[i]], rfl, (hk' ζ'.nx (Nat.lt_succ_self _) (by omega) (by omega)).trans (by show (if ζ'.nx = ζ'.nx then _ else _) = _; rw [if_pos rfl]), Nat.lt_of_lt_of_le (Nat.lt_succ_self _) hn', by simp, by simp, rfl⟩
    have hxi : x.getD i 0 = x[i] := getD_get _ _ hlt
    have em := dl.mems x i
    have eo := dl.outs x i
    rw [hxi] at em eo
    have eg : goS p (memD n x i, i) [x[i]] = (memD n x (i + 1), i + 1) := by unfold goS; rw [hins, fit1, if_pos rfl, em]
    have eo' : outS p (memD n x i) [x[i]] = [yv n x 0 i] := by unfold outS; rw [hins, fit1, if_pos rfl, eo]
    refine thenN_call (refstep_go U M6 hf hck K5 hst ⟨by simp, fun a ha => by rw [List.mem_singleton.1 ha]; exact hx _ (List.getElem_mem hlt)⟩ (by omega) fun xo η6 M7 K7 R7 n7 k7 => ?_)
    rw [eg] at M7 K7
    rw [eo'] at R7
    rw [hins, fit1]
    obtain ⟨_, hR⟩ | ⟨ob, o1, o2, ⟨_, hR⟩ | ⟨ocap, oe, of⟩⟩ := R7
    · cases hR
    · cases hR
    have E6 : ExtB ζ3.nx ζ3 η6 := E5.trans ⟨by omega, fun b' hb' => (k7 b' (by omega) (by omega) (by omega)).trans (nw b' (by omega))⟩
    have F6 := (E2.trans (E3.mono E2.1)).trans (E6.mono n23)
    have ofw : η6.f ob = .live false [.int .i64 (yv n x 0 i)] := of
    have oew : xo = .slice ob 0 1 ocap := oe
    have fin : ∀ φ' : FN, φ' 0 = .int .i64 n → φ' 1 = y → φ' 10 = .ptr mp 0 → φ' 11 = .int .i64 (i + 1) → ∃ m', m' < m ∧ I m' φ' η6 := fun φ' q0 q1 q10 q11 => ⟨x.length - (i + 1), by omega, (hI _ _ _).2 ⟨i + 1, rfl, by omega, q0, q1, q10, q11, M7, K7, E6⟩⟩
    by_cases hni : n ≤ i
    · obtain ⟨b2, off2, cap2, ro2, row2, ye2, hb2, hbn2, hr2⟩ := (rdI_ext hy F6).at (show i - n < x.length by omega)
      have ey : yv n x 0 i = x[i - n] := by unfold yv; rw [if_pos (by omega), show i - (n - 0) = i - n by omega, getD_get _ _ (by omega)]
      have hv := hx _ (List.getElem_mem (show i - n < x.length by omega))
      rw [ey] at ofw
      simp -implicitDefEqProofs (disch := omega) only [go_sem, p0, p1, p10, p11, ly, oew, ofw, ye2, hb2, hr2, Bool.not_true]
      exact fin _ p0 p1 p10 rfl
    · have ey : yv n x 0 i = 5 := if_neg (by omega)
      rw [ey] at ofw
      simp -implicitDefEqProofs (disch := omega) only [go_sem, p0, p1, p10, p11, ly, oew, ofw, Bool.not_true]
      exact fin _ p0 p1 p10 rfl
  · obtain rfl : x.length = i := by omega
    simp -implicitDefEqProofs (disch := omega) only [go_sem, p0, p1, p10, p11, ly]
end Go.Proofs.YtgccjneplchojaaGreatDoor
