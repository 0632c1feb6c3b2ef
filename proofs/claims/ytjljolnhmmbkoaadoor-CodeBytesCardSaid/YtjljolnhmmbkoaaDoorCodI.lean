/- What is proved: the document's Text gives the decimal numeral. instructions' names, how many operands they have. how instructions are shown. Conditions: as each theorem says. -/
import Derived.Test.YtjljolnhmmbkoaaDoorCodH
import Derived.Test.YtjljolnhmmbkoaaDoorTextW
import Derived.Test.YtjljolnhmmbkoaaDoorPlain
set_option linter.unusedVariables false
set_option linter.unusedSimpArgs false
set_option linter.unusedSectionVars false
namespace Go.Proofs.YtjljolnhmmbkoaaDoor
open Go.Eng
set_option autoImplicit false
set_option linter.unusedSectionVars false
theorem bV_app : ∀ l k : List Nat, bV (l ++ k) = bV l + 256 ^ l.length * bV k
  | [], k => by simp [bV]
  | a :: l, k => by
    show a + 256 * bV (l ++ k) = a + 256 * bV l + _
    rw [bV_app l k, List.length_cons, Nat.pow_succ, Nat.mul_add, Nat.mul_comm (256 ^ l.length) 256, Nat.mul_assoc, Nat.add_assoc]
theorem cat_bV (l k : List Nat) : strCat l.length (bV l) (bV k) = bV (l ++ k) := by
  rw [bV_app]
  unfold strCat
  show bV l + bV k <<< (8 * l.length) = _
  rw [Nat.shiftLeft_eq, Nat.pow_mul, Nat.mul_comm]
theorem decN_len {v : Nat} (h1 : v < 18446744073709551616) : (decN v).length ≤ 20 := by
  unfold decN
  rw [digN_len]
  by_cases h0 : v = 0
  · subst h0; rw [Lib.nDigits_small (by decide)]; decide
  · exact nDig_le (by omega) h1
theorem itoaL_len {v : Nat} (h : v < 18446744073709551616) : (itoaL v).length ≤ 21 := by
  unfold itoaL
  split
  · have := decN_len h; omega
  · have := decN_len (show 18446744073709551616 - v < 18446744073709551616 by omega)
    rw [List.length_cons]; omega
theorem sgn_pos {v : Nat} (h : v < 9223372036854775808) : sgn .i64 v = (v : Int) := by
  unfold sgn nneg
  rw [ble_true.2 (show Nat.succ v ≤ halfN .i64 from h)]; rfl
theorem sgn_neg {v : Nat} (h : ¬ v < 9223372036854775808) : sgn .i64 v = (v : Int) - 18446744073709551616 := by
  unfold sgn
  rw [nneg_big h]
  show Int.subNatNat v 18446744073709551616 = _
  rw [Int.subNatNat_eq_coe]; rfl
theorem itoa_nat {v : Nat} (hv : v < 18446744073709551616) : (Lib.itoa (sgn .i64 v)).map UInt8.toNat = itoaL v := by
  unfold itoaL Lib.itoa
  by_cases h : v < 9223372036854775808
  · rw [if_pos h, sgn_pos h, if_neg (by omega), Int.toNat_natCast, dec_toNat]
  · rw [if_neg h, sgn_neg h, if_pos (by omega), List.map_cons, dec_toNat, show ((v : Int) - 18446744073709551616).natAbs = 18446744073709551616 - v by omega]; rfl
noncomputable def F45 : List AV → Option AV
  | [.int .i64 v] => some (.str (Lib.itoa (sgn .i64 v)).length (codesL (Lib.itoa (sgn .i64 v))))
  | _ => none
theorem nat45_ok [Deep] [Env] : NatOK Tryd.prog 45 (fnNat F45) := by
  intro args h v h' e ρ w us hr _ _ hv
  unfold fnNat at e
  split at e
  · rename_i v1 hF
    cases e
    unfold F45 at hF
    split at hF
    · rename_i x
      cases hF
      obtain ⟨u, rfl, hu⟩ := one_arg hv
      obtain ⟨hlt, rfl⟩ := VR_int.1 hu
      have hlt : x < 18446744073709551616 := hlt
      have hb : -9223372036854775808 ≤ sgn .i64 x ∧ sgn .i64 x ≤ 9223372036854775807 := by
        by_cases h : x < 9223372036854775808
        · rw [sgn_pos h]; omega
        · rw [sgn_neg h]; omega
      refine ⟨callFunc_run Tryd.func45 rfl (by kernel_rfl), (text_all (sgn .i64 x) hb.1 hb.2 w).mono fun e' w' q => ?_⟩
      obtain ⟨q1, q2⟩ := q
      exact ⟨_, ρ, q1, VR_str.2 ⟨_, rfl, rfl, rfl⟩, Kept.st hr (⟨q2.size, q2.block, q2.tape, q2.os, q2.output⟩ : Kept w w')⟩
    · cases hF
  · exact (fail_val e).elim
variable {nat : ∀ [Deep], Nats}
theorem text_call (h45 : ∀ [Deep], nat 45 = some (fnNat F45)) {η : HN} {v : Nat} (hv : v < 18446744073709551616) : CallN Tryd.prog nat 45 [.int .i64 v] η (.str (itoaL v).length (bV (itoaL v))) η := by
  have e : F45 [.int .i64 v] = some (.str (itoaL v).length (bV (itoaL v))) := by
    show some (AV.str (Lib.itoa (sgn .i64 v)).length (codesL (Lib.itoa (sgn .i64 v)))) = _
    rw [← itoa_nat hv, List.length_map, ← codes_bV]
  exact fn_call h45 e
end Go.Proofs.YtjljolnhmmbkoaaDoor
namespace Go.Proofs.YtjljolnhmmbkoaaDoor
open Go.Eng
set_option autoImplicit false
set_option maxRecDepth 100000
variable {nat : ∀ [Deep], Nats}
attribute [local irreducible] wpN
@[go_sem] theorem opd_se {φ : FN} : opd φ (.const (.string ⟨#[]⟩)) = .str 0 0 := rfl
@[go_sem] theorem opd_sp {φ : FN} : opd φ (.const (.string ⟨#[32]⟩)) = .str 1 32 := rfl
@[go_sem] theorem opd_n0 {φ : FN} : opd φ (.const (.string ⟨#[99, 111, 110, 115, 116]⟩)) = .str 5 500152823651 := rfl
@[go_sem] theorem opd_n1 {φ : FN} : opd φ (.const (.string ⟨#[109, 111, 118, 101]⟩)) = .str 4 1702260589 := rfl
@[go_sem] theorem opd_n2 {φ : FN} : opd φ (.const (.string ⟨#[108, 111, 97, 100]⟩)) = .str 4 1684107116 := rfl
@[go_sem] theorem opd_n3 {φ : FN} : opd φ (.const (.string ⟨#[107, 101, 101, 112]⟩)) = .str 4 1885693291 := rfl
@[go_sem] theorem opd_n4 {φ : FN} : opd φ (.const (.string ⟨#[105, 110]⟩)) = .str 2 28265 := rfl
@[go_sem] theorem opd_n5 {φ : FN} : opd φ (.const (.string ⟨#[111, 117, 116]⟩)) = .str 3 7632239 := rfl
@[go_sem] theorem opd_n6 {φ : FN} : opd φ (.const (.string ⟨#[110, 111, 116]⟩)) = .str 3 7630702 := rfl
@[go_sem] theorem opd_n7 {φ : FN} : opd φ (.const (.string ⟨#[110, 101, 103]⟩)) = .str 3 6776174 := rfl
@[go_sem] theorem opd_n8 {φ : FN} : opd φ (.const (.string ⟨#[97, 100, 100]⟩)) = .str 3 6579297 := rfl
@[go_sem] theorem opd_n9 {φ : FN} : opd φ (.const (.string ⟨#[115, 117, 98]⟩)) = .str 3 6452595 := rfl
@[go_sem] theorem opd_n10 {φ : FN} : opd φ (.const (.string ⟨#[109, 117, 108]⟩)) = .str 3 7107949 := rfl
@[go_sem] theorem opd_n11 {φ : FN} : opd φ (.const (.string ⟨#[100, 105, 118]⟩)) = .str 3 7760228 := rfl
@[go_sem] theorem opd_n12 {φ : FN} : opd φ (.const (.string ⟨#[109, 111, 100]⟩)) = .str 3 6582125 := rfl
@[go_sem] theorem opd_n13 {φ : FN} : opd φ (.const (.string ⟨#[101, 113]⟩)) = .str 2 29029 := rfl
@[go_sem] theorem opd_n14 {φ : FN} : opd φ (.const (.string ⟨#[108, 116]⟩)) = .str 2 29804 := rfl
@[go_sem] theorem opd_n15 {φ : FN} : opd φ (.const (.string ⟨#[108, 101]⟩)) = .str 2 25964 := rfl
@[go_sem] theorem opd_n16 {φ : FN} : opd φ (.const (.string ⟨#[97, 110, 100]⟩)) = .str 3 6581857 := rfl
@[go_sem] theorem opd_n17 {φ : FN} : opd φ (.const (.string ⟨#[111, 114]⟩)) = .str 2 29295 := rfl
@[go_sem] theorem opd_n18 {φ : FN} : opd φ (.const (.string ⟨#[120, 111, 114]⟩)) = .str 3 7499640 := rfl
@[go_sem] theorem opd_n19 {φ : FN} : opd φ (.const (.string ⟨#[117, 110, 108, 101, 115, 115]⟩)) = .str 6 126939460038261 := rfl
@[go_sem] theorem opd_n20 {φ : FN} : opd φ (.const (.string ⟨#[106, 117, 109, 112]⟩)) = .str 4 1886221674 := rfl
@[go_sem] theorem rep_21 {z : AV} : List.replicate 21 z = [z, z, z, z, z, z, z, z, z, z, z, z, z, z, z, z, z, z, z, z, z] := rfl
def nmL : List (List Nat) := [[99, 111, 110, 115, 116], [109, 111, 118, 101], [108, 111, 97, 100], [107, 101, 101, 112], [105, 110], [111, 117, 116], [110, 111, 116], [110, 101, 103], [97, 100, 100], [115, 117, 98], [109, 117, 108], [100, 105, 118], [109, 111, 100], [101, 113], [108, 116], [108, 101], [97, 110, 100], [111, 114], [120, 111, 114], [117, 110, 108, 101, 115, 115], [106, 117, 109, 112]]
def nmF (op : Nat) : List Nat := nmL.getD op []
def nOps (op : Nat) : Nat := if op < 20 then (if 8 ≤ op ∧ op ≤ 18 then 3 else 2) else if op = 20 then 1 else 0
theorem nm_at : ∀ op, op < 21 → [AV.str 5 500152823651, AV.str 4 1702260589, AV.str 4 1684107116, AV.str 4 1885693291, AV.str 2 28265, AV.str 3 7632239, AV.str 3 7630702, AV.str 3 6776174, AV.str 3 6579297, AV.str 3 6452595, AV.str 3 7107949, AV.str 3 7760228, AV.str 3 6582125, AV.str 2 29029, AV.str 2 29804, AV.str 2 25964, AV.str 3 6581857, AV.str 2 29295, AV.str 3 7499640, AV.str 6 126939460038261, AV.str 4 1886221674][op]? = some (.str (nmF op).length (bV (nmF op)))
  | 0, _ => rfl
  | 1, _ => rfl
  | 2, _ => rfl
  | 3, _ => rfl
  | 4, _ => rfl
  | 5, _ => rfl
  | 6, _ => rfl
  | 7, _ => rfl
  | 8, _ => rfl
  | 9, _ => rfl
  | 10, _ => rfl
  | 11, _ => rfl
  | 12, _ => rfl
  | 13, _ => rfl
  | 14, _ => rfl
  | 15, _ => rfl
  | 16, _ => rfl
  | 17, _ => rfl
  | 18, _ => rfl
  | 19, _ => rfl
  | 20, _ => rfl
  | n + 21, h => absurd h (by omega)
theorem cnt_at : ∀ op, op < 21 → [AV.int .i64 2, AV.int .i64 2, AV.int .i64 2, AV.int .i64 2, AV.int .i64 2, AV.int .i64 2, AV.int .i64 2, AV.int .i64 2, AV.int .i64 3, AV.int .i64 3, AV.int .i64 3, AV.int .i64 3, AV.int .i64 3, AV.int .i64 3, AV.int .i64 3, AV.int .i64 3, AV.int .i64 3, AV.int .i64 3, AV.int .i64 3, AV.int .i64 2, AV.int .i64 1][op]? = some (.int .i64 (nOps op))
  | 0, _ => rfl
  | 1, _ => rfl
  | 2, _ => rfl
  | 3, _ => rfl
  | 4, _ => rfl
  | 5, _ => rfl
  | 6, _ => rfl
  | 7, _ => rfl
  | 8, _ => rfl
  | 9, _ => rfl
  | 10, _ => rfl
  | 11, _ => rfl
  | 12, _ => rfl
  | 13, _ => rfl
  | 14, _ => rfl
  | 15, _ => rfl
  | 16, _ => rfl
  | 17, _ => rfl
  | 18, _ => rfl
  | 19, _ => rfl
  | 20, _ => rfl
  | n + 21, h => absurd h (by omega)
theorem nm_pos : ∀ op, op < 21 → 2 ≤ (nmF op).length ∧ (nmF op).length ≤ 6
  | 0, _ => by decide
  | 1, _ => by decide
  | 2, _ => by decide
  | 3, _ => by decide
  | 4, _ => by decide
  | 5, _ => by decide
  | 6, _ => by decide
  | 7, _ => by decide
  | 8, _ => by decide
  | 9, _ => by decide
  | 10, _ => by decide
  | 11, _ => by decide
  | 12, _ => by decide
  | 13, _ => by decide
  | 14, _ => by decide
  | 15, _ => by decide
  | 16, _ => by decide
  | 17, _ => by decide
  | 18, _ => by decide
  | 19, _ => by decide
  | 20, _ => by decide
  | n + 21, h => absurd h (by omega)
theorem nm_lt : ∀ op, op < 21 → ∀ x ∈ nmF op, x < 256
  | 0, _ => by decide
  | 1, _ => by decide
  | 2, _ => by decide
  | 3, _ => by decide
  | 4, _ => by decide
  | 5, _ => by decide
  | 6, _ => by decide
  | 7, _ => by decide
  | 8, _ => by decide
  | 9, _ => by decide
  | 10, _ => by decide
  | 11, _ => by decide
  | 12, _ => by decide
  | 13, _ => by decide
  | 14, _ => by decide
  | 15, _ => by decide
  | 16, _ => by decide
  | 17, _ => by decide
  | 18, _ => by decide
  | 19, _ => by decide
  | 20, _ => by decide
  | n + 21, h => absurd h (by omega)
theorem nm_none {op : Nat} (h : ¬ op < 21) : nmF op = [] := by
  unfold nmF
  rw [List.getD_eq_getElem?_getD, List.getElem?_eq_none (by show 21 ≤ op; omega)]; rfl
theorem ltN_bigI {n m : Nat} (h : ¬ n < 9223372036854775808) (hm : m < 9223372036854775808) : ltN .i64 n m = true := by
  have h2 : nneg .i64 m = true := ble_true.2 (show Nat.succ m ≤ 9223372036854775808 by omega)
  unfold ltN
  rw [nneg_big h, h2]; rfl
set_option maxHeartbeats 1000000 in
theorem name_then (U : Usual nat) {η : HN} {op : Nat} {Q : AV → HN → Prop} (hop : op < 18446744073709551616) (h : ∀ η', ExtB η.nx η η' → Q (.str (nmF op).length (bV (nmF op))) η') : ∃ v η', CallN Tryd.prog nat 11 [.int .i64 op] η v η' ∧ Q v η' := by
  have hbody : Tryd.f11.body = some _ := rfl
  refine @call_of Tryd.prog nat pl11 11 Tryd.f11 _ Q [.int .i64 op] η Tryd.func11 hbody (U 11 (by decide)) ok11 rfl ?_
  by_cases h1 : op < 21
  · have hr := nm_at op h1
    simp -implicitDefEqProofs (disch := omega) only [go_sem, hr]
    exact h _ (extN (.refl _ _))
  · rw [nm_none h1] at h
    by_cases h2 : op < 9223372036854775808
    · simp -implicitDefEqProofs (disch := omega) only [go_sem]
      exact h _ (extN (.refl _ _))
    · have hl := ltN_bigI h2 (show 0 < 9223372036854775808 by decide)
      simp -implicitDefEqProofs (disch := omega) only [go_sem, hl]
      exact h _ (extN (.refl _ _))
def nmR : List AV := [AV.str 5 500152823651, AV.str 4 1702260589, AV.str 4 1684107116, AV.str 4 1885693291, AV.str 2 28265, AV.str 3 7632239, AV.str 3 7630702, AV.str 3 6776174, AV.str 3 6579297, AV.str 3 6452595, AV.str 3 7107949, AV.str 3 7760228, AV.str 3 6582125, AV.str 2 29029, AV.str 2 29804, AV.str 2 25964, AV.str 3 6581857, AV.str 2 29295, AV.str 3 7499640, AV.str 6 126939460038261, AV.str 4 1886221674]
def cntR : List AV := [AV.int .i64 2, AV.int .i64 2, AV.int .i64 2, AV.int .i64 2, AV.int .i64 2, AV.int .i64 2, AV.int .i64 2, AV.int .i64 2, AV.int .i64 3, AV.int .i64 3, AV.int .i64 3, AV.int .i64 3, AV.int .i64 3, AV.int .i64 3, AV.int .i64 3, AV.int .i64 3, AV.int .i64 3, AV.int .i64 3, AV.int .i64 3, AV.int .i64 2, AV.int .i64 1]
theorem rows_then (U : Usual nat) {η : HN} {Q : AV → HN → Prop} (h : ∀ η', ExtB η.nx η η' → η'.nx = η.nx + 2 → η'.f η.nx = .live false nmR → η'.f (η.nx + 1) = .live false cntR → Q (.tup [.slice η.nx 0 21 (.kn 21), .slice (η.nx + 1) 0 21 (.kn 21)]) η') : ∃ v η', CallN Tryd.prog nat 44 [] η v η' ∧ Q v η' := by
  have hbody : Tryd.f44.body = some _ := rfl
  refine @call_of Tryd.prog nat pl44 44 Tryd.f44 _ Q [] η Tryd.func44 hbody (U 44 (by decide)) ok44 rfl ?_
  simp -implicitDefEqProofs (disch := omega) only [go_sem]
  refine h _ (extN (extN (.refl _ _))) rfl ?_ ?_
  · show (if η.nx = η.nx + 1 then _ else if η.nx = η.nx then _ else _) = _
    rw [if_neg (by omega), if_pos rfl]; rfl
  · show (if η.nx + 1 = η.nx + 1 then _ else _) = _
    rw [if_pos rfl]; rfl
theorem nmR_at {op : Nat} (h : op < 21) : nmR[op]? = some (.str (nmF op).length (bV (nmF op))) := nm_at op h
theorem cntR_at {op : Nat} (h : op < 21) : cntR[op]? = some (.int .i64 (nOps op)) := cnt_at op h
set_option maxHeartbeats 1000000 in
theorem refname_then (U : Usual nat) {η : HN} {op : Nat} {Q : AV → HN → Prop} (hop : op < 18446744073709551616) (h : ∀ η', ExtB η.nx η η' → Q (.str (nmF op).length (bV (nmF op))) η') : ∃ v η', CallN Tryd.prog nat 17 [.int .i64 op] η v η' ∧ Q v η' := by
  refine call_of (PT := pl17) Tryd.func17 rfl (U 17 (by decide)) ok17 rfl ?_
  simp -implicitDefEqProofs (disch := omega) only [go_sem]
  refine thenN_call (rows_then U fun η1 E1 n1 f1 f2 => ?_)
  by_cases h1 : op < 21
  · have hr := nmR_at h1
    simp -implicitDefEqProofs (disch := omega) only [go_sem, f1, hr]
    exact h _ E1
  · rw [nm_none h1] at h
    by_cases h2 : op < 9223372036854775808
    · simp -implicitDefEqProofs (disch := omega) only [go_sem]
      exact h _ E1
    · have hl := ltN_bigI h2 (show 0 < 9223372036854775808 by decide)
      simp -implicitDefEqProofs (disch := omega) only [go_sem, hl]
      exact h _ E1
theorem ops_call (U : Usual nat) {η : HN} {op : Nat} (h : op < 21) : CallN Tryd.prog nat 38 [.int .i64 op] η (.int .i64 (nOps op)) η := by
  have : ∃ v η', CallN Tryd.prog nat 38 [.int .i64 op] η v η' ∧ v = .int .i64 (nOps op) ∧ η' = η := by
    refine call_of (PT := pl38) Tryd.func38 rfl (U 38 (by decide)) ok38 rfl ?_
    unfold nOps
    by_cases h2 : op = 20
    · subst h2
      simp -implicitDefEqProofs (disch := omega) only [go_sem]
    rw [if_pos (by omega)]
    by_cases h3 : op < 8
    · rw [if_neg (by omega)]
      simp -implicitDefEqProofs (disch := omega) only [go_sem]
    by_cases h4 : 18 < op
    · rw [if_neg (by omega)]
      simp -implicitDefEqProofs (disch := omega) only [go_sem]
    rw [if_pos (by omega)]
    simp -implicitDefEqProofs (disch := omega) only [go_sem]
  obtain ⟨v, η', k, rfl, rfl⟩ := this
  exact k
end Go.Proofs.YtjljolnhmmbkoaaDoor
namespace Go.Proofs.YtjljolnhmmbkoaaDoor
open Go.Eng
set_option autoImplicit false
set_option maxRecDepth 100000
variable {nat : ∀ [Deep], Nats}
attribute [local irreducible] wpN
def strA (s : List Nat) : AV := .str s.length (bV s)
/-- pieces, joined by blanks -/
def joinN : List (List Nat) → List Nat
  | [] => []
  | p :: r => p ++ (r.map (32 :: ·)).flatten
theorem strL_bV : ∀ s : List Nat, (∀ x ∈ s, x < 256) → strL s.length (bV s) = s.map UInt8.ofNat
  | [], _ => rfl
  | a :: s, h => by
    have ha := h a (by simp)
    show UInt8.ofNat ((a + 256 * bV s) % 256) :: strL s.length ((a + 256 * bV s) / 256) = _
    rw [show (a + 256 * bV s) % 256 = a by omega, show (a + 256 * bV s) / 256 = bV s by omega, strL_bV s fun x hx => h x (List.mem_cons_of_mem _ hx)]; rfl
theorem back8 : ∀ s : List Nat, (∀ x ∈ s, x < 256) → (s.map UInt8.ofNat).map UInt8.toNat = s
  | [], _ => rfl
  | a :: s, h => by
    have ha := h a (by simp)
    rw [List.map_cons, List.map_cons, back8 s fun x hx => h x (List.mem_cons_of_mem _ hx), UInt8.toNat_ofNat', Nat.mod_eq_of_lt (by omega)]
theorem pieces_strA : ∀ ps : List (List Nat), (∀ s ∈ ps, ∀ x ∈ s, x < 256) → piecesA (ps.map strA) = some (ps.map (·.map UInt8.ofNat))
  | [], _ => rfl
  | p :: ps, h => by
    rw [List.map_cons, piecesA, pieces_strA ps fun s hs => h s (List.mem_cons_of_mem _ hs)]
    show (match pieceA (.str p.length (bV p)), some (ps.map (·.map UInt8.ofNat)) with | some x, some r => some (x :: r) | _, _ => none) = _
    rw [pieceA, strL_bV p (h p (by simp))]; rfl
theorem join_back (ps : List (List Nat)) (h : ∀ s ∈ ps, ∀ x ∈ s, x < 256) : (Lib.join (ps.map (·.map UInt8.ofNat)) [32]).map UInt8.toNat = joinN ps := by
  cases ps with
  | nil => rfl
  | cons p r =>
    rw [List.map_cons, Lib.join_cons, List.map_append, back8 p (h p (by simp))]
    unfold joinN
    congr 1
    unfold Lib.joinTail
    have : ∀ r : List (List Nat), (∀ s ∈ r, ∀ x ∈ s, x < 256) → (((r.map (·.map UInt8.ofNat)).map ([32] ++ ·)).flatten).map UInt8.toNat = (r.map (32 :: ·)).flatten := by
      intro r
      induction r with
      | nil => intro _; rfl
      | cons a r ih =>
        intro h
        rw [List.map_cons, List.map_cons, List.flatten_cons, List.map_append, ih fun s hs => h s (List.mem_cons_of_mem _ hs), List.map_append, back8 a (h a (by simp))]; rfl
    exact this r fun s hs => h s (List.mem_cons_of_mem _ hs)
theorem join_call (h40 : ∀ [Deep], nat 40 = some joinNat2) {η : HN} {b n : Nat} {cap : Cp} {ps : List (List Nat)} (hf : η.f b = .live false (ps.map strA)) (hn : n = ps.length) (h0 : 0 < n) (h9 : n ≤ 9) (hx : ∀ s ∈ ps, ∀ x ∈ s, x < 256) (hl : (joinN ps).length ≤ 1000) :
    CallN Tryd.prog nat 40 [.slice b 0 n cap, .str 1 32] η (.str (joinN ps).length (bV (joinN ps))) η := by
  refine callN_nat (g := joinNat2) h40 ⟨b + 1, fun hd h r => ⟨h, ?_, r⟩⟩
  have q := r.blk b (lt_most' (Nat.lt_succ_self b) hd)
  rw [hf] at q
  obtain ⟨cs, q1, q2⟩ := q
  have hj := join_back ps hx
  have hlen : (Lib.join (ps.map (·.map UInt8.ofNat)) [32]).length = (joinN ps).length := by rw [← hj, List.length_map]
  show (if 0 < n ∧ n ≤ 9 ∧ 1 = 1 ∧ 32 = 32 then joinB h 0 n (hget h b) else .fail 98) = _
  rw [if_pos ⟨h0, h9, rfl, rfl⟩, q1]
  show (if 0 + n ≤ (ps.map strA).length then joinL h (piecesA ((List.range n).map fun j => cget cs (0 + j))) else .fail 98) = _
  rw [if_pos (by rw [List.length_map]; omega), row_eq q2 (by rw [List.length_map]; omega), List.drop_zero, List.take_of_length_le (by rw [List.length_map]; omega), pieces_strA ps hx]
  show (if (Lib.join (ps.map (·.map UInt8.ofNat)) [32]).length ≤ 1000 then RV.val (.str (Lib.join (ps.map (·.map UInt8.ofNat)) [32]).length (codesL (Lib.join (ps.map (·.map UInt8.ofNat)) [32]))) h else .fail 98) = _
  rw [hlen, if_pos hl, codes_bV, hj]
end Go.Proofs.YtjljolnhmmbkoaaDoor
