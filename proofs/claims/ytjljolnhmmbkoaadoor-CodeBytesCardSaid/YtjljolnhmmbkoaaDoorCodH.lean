/- What is proved: library functions of ints that are met by their contracts; strings.Join at any pieces. how many digits a number has; its digits, written. strconv.Itoa gives the decimal numeral. Conditions: as each theorem says. -/
import Derived.Test.YtjljolnhmmbkoaaDoorLaid
import Derived.Test.YtjljolnhmmbkoaaDoorLaidI
import Derived.Test.YtjljolnhmmbkoaaDoorCodA
import Derived.Test.YtjljolnhmmbkoaaDoorWN
import Derived.Lib.ItoaNum
import Derived.Lib.Join
set_option linter.unusedVariables false
set_option linter.unusedSimpArgs false
set_option linter.unusedSectionVars false
namespace Go.Proofs.YtjljolnhmmbkoaaDoor
open Go.Eng
set_option autoImplicit false
set_option linter.unusedSectionVars false
/-- bytes of a number -/
def strL : Nat → Nat → List UInt8
  | 0, _ => []
  | n + 1, v => UInt8.ofNat (v % 256) :: strL n (v / 256)
theorem strL_codes : ∀ l : List UInt8, strL l.length (codesL l) = l
  | [] => rfl
  | b :: l => by
    have hb := b.toNat_lt
    rw [codesL_cons, List.length_cons, strL, show (b.toNat + 256 * codesL l) % 256 = b.toNat by omega, show (b.toNat + 256 * codesL l) / 256 = codesL l by omega, strL_codes l, UInt8.ofNat_toNat]
section
variable [Deep] [Env]
noncomputable def fnNat (F : List AV → Option AV) (args : List AV) (h : H) : RV := match F args with | some v => .val v h | none => .fail 97
theorem fnNat_ok {f : FuncId} {F : List AV → Option AV} (hf : ∀ us w, (callFunc f us).run Tryd.prog w = .ok (.enter f us) w) (hc : ∀ args v us ρ, F args = some v → VL ρ args us → ∃ u, VR ρ v u ∧ ∀ w, Calls Tryd.prog f ⟨us⟩ w fun e w' => e = .returned u ∧ w' = w) : NatOK Tryd.prog f (fnNat F) := by
  intro args h v h' e ρ w us hr _ _ hv
  unfold fnNat at e
  split at e
  · rename_i v1 hF
    cases e
    obtain ⟨u, h1, h2⟩ := hc _ _ _ _ hF hv
    refine ⟨hf _ _, (h2 w).mono fun e' w' q => ?_⟩
    obtain ⟨rfl, rfl⟩ := q
    exact ⟨u, ρ, rfl, h1, Kept.st hr ⟨Nat.le_refl _, fun _ _ => rfl, rfl, rfl, rfl⟩⟩
  · exact (fail_val e).elim
end
noncomputable def F71 : List AV → Option AV
  | [.int .u64 x] => some (.int .i64 (Lib.bitLen x))
  | _ => none
noncomputable def F70 : List AV → Option AV
  | [.int .i64 x] => if x ≤ 64 then some (.int .i64 (Lib.l10 x)) else none
  | _ => none
noncomputable def F72 : List AV → Option AV
  | [.bool b] => some (.int .i64 (if b then 1 else 0))
  | _ => none
noncomputable def F64 : List AV → Option AV
  | [.int .i64 x] => if x < 100 then some (.str (Lib.decDigits x).length (codesL (Lib.decDigits x))) else none
  | _ => none
theorem bitLen_le (x : Nat) : Lib.bitLen x ≤ 64 := by
  have : ∀ f x, Lib.bitLenAux f x ≤ f := by
    intro f
    induction f with
    | zero => intro x; simp [Lib.bitLenAux]
    | succ f ih =>
      intro x
      unfold Lib.bitLenAux
      split
      · omega
      · have := ih (x / 2); omega
  exact this 64 x
section
variable [Deep] [Env]
theorem int_vr {ρ : Ren} {n : Nat} (h : n < 9223372036854775808) : VR ρ (.int .i64 n) (.int .i64 (n : Int)) := by
  refine VR_int.2 ⟨Nat.lt_trans h (by decide), ?_⟩
  unfold sgn nneg
  rw [ble_true.2 (show Nat.succ n ≤ halfN .i64 from h)]; rfl
theorem one_arg {ρ : Ren} {a : AV} {us : List Value} (h : VL ρ [a] us) : ∃ u, us = [u] ∧ VR ρ a u := by
  unfold VL at h
  obtain ⟨u, r, rfl, hu, hv⟩ := h
  unfold VL at hv
  subst hv
  exact ⟨u, rfl, hu⟩
theorem i64_of {ρ : Ren} {n : Nat} {u : Value} (h : VR ρ (.int .i64 n) u) (hn : n < 9223372036854775808) : u = .int .i64 (n : Int) := by
  obtain ⟨_, rfl⟩ := VR_int.1 h
  unfold sgn nneg
  rw [ble_true.2 (show Nat.succ n ≤ halfN .i64 from hn)]; rfl
theorem nat71_ok : NatOK Tryd.prog 71 (fnNat F71) := fnNat_ok (fun _ _ => callFunc_run Tryd.func71 rfl (by kernel_rfl)) fun args v us ρ hF hv => by
  unfold F71 at hF
  split at hF
  · cases hF
    obtain ⟨u, rfl, hu⟩ := one_arg hv
    obtain ⟨hlt, rfl⟩ := VR_int.1 hu
    rename_i x
    have hs : sgn .u64 x = (x : Int) := by
      unfold sgn nneg
      rw [ble_true.2 (show Nat.succ x ≤ halfN .u64 from hlt)]; rfl
    have hlt : x < 18446744073709551616 := hlt
    have hb := bitLen_le x
    refine ⟨_, int_vr (by omega), fun w => ?_⟩
    have := Tryd.bits_Len64 (x : Int) w (by omega) (by omega)
    rw [hs]
    exact this
  · cases hF
theorem l10_le {x : Nat} (h : x ≤ 64) : Lib.l10 x ≤ 19 := by
  unfold Lib.l10
  omega
theorem nat70_ok : NatOK Tryd.prog 70 (fnNat F70) := fnNat_ok (fun _ _ => callFunc_run Tryd.func70 rfl (by kernel_rfl)) fun args v us ρ hF hv => by
  unfold F70 at hF
  split at hF
  · split at hF
    · rename_i x hx
      cases hF
      obtain ⟨u, rfl, hu⟩ := one_arg hv
      obtain rfl := i64_of hu (by omega)
      have := l10_le hx
      exact ⟨_, int_vr (by omega), fun w => Tryd.internal_strconv_log10Pow2 x hx w⟩
    · cases hF
  · cases hF
theorem nat72_ok : NatOK Tryd.prog 72 (fnNat F72) := fnNat_ok (fun _ _ => callFunc_run Tryd.func72 rfl (by kernel_rfl)) fun args v us ρ hF hv => by
  unfold F72 at hF
  split at hF
  · rename_i b
    cases hF
    obtain ⟨u, rfl, hu⟩ := one_arg hv
    obtain rfl := VR_bool.1 hu
    refine ⟨_, int_vr (n := if b then 1 else 0) (by split <;> omega), fun w => ?_⟩
    have := Tryd.internal_strconv_bool2_int b w
    cases b <;> exact this
  · cases hF
theorem nat64_ok : NatOK Tryd.prog 64 (fnNat F64) := fnNat_ok (fun _ _ => callFunc_run Tryd.func64 rfl (by kernel_rfl)) fun args v us ρ hF hv => by
  unfold F64 at hF
  split at hF
  · split at hF
    · rename_i x hx
      cases hF
      obtain ⟨u, rfl, hu⟩ := one_arg hv
      obtain rfl := i64_of hu (by omega)
      exact ⟨_, VR_str.2 ⟨_, rfl, rfl, rfl⟩, fun w => Tryd.internal_strconv_small x hx w⟩
    · cases hF
  · cases hF
/-! ### strings.Join -/
def pieceA : AV → Option (List UInt8)
  | .str n v => some (strL n v)
  | _ => none
def piecesA : List AV → Option (List (List UInt8))
  | [] => some []
  | a :: l => match pieceA a, piecesA l with | some x, some r => some (x :: r) | _, _ => none
noncomputable def joinL (h : H) (ps : Option (List (List UInt8))) : RV := match ps with
  | some ps => if (Lib.join ps [32]).length ≤ 1000 then .val (.str (Lib.join ps [32]).length (codesL (Lib.join ps [32]))) h else .fail 98
  | none => .fail 98
noncomputable def joinB (h : H) (off len : Nat) (x : Blk) : RV := match x with
  | .live _ sz cs => if off + len ≤ sz then joinL h (piecesA ((List.range len).map fun j => cget cs (off + j))) else .fail 98
  | _ => .fail 98
noncomputable def joinNat2 (args : List AV) (h : H) : RV := match args with
  | [.slice b off len _, .str n v] => if 0 < len ∧ len ≤ 9 ∧ n = 1 ∧ v = 32 then joinB h off len (hget h b) else .fail 98
  | _ => .fail 98
theorem piece_at {ρ : Ren} {a : AV} {x : List UInt8} {u : Value} (h : pieceA a = some x) (hv : VR ρ a u) : u = .string ⟨x.toArray⟩ := by
  unfold pieceA at h
  split at h
  · cases h
    obtain ⟨b, rfl, h1, h2⟩ := VR_str.1 hv
    rw [← h1, ← h2, strL_codes]
  · cases h
theorem pieces_at : ∀ {l : List AV} {ps : List (List UInt8)}, piecesA l = some ps → ps.length = l.length ∧ ∀ (j : Nat) (x : List UInt8), ps[j]? = some x → ∃ a, l[j]? = some a ∧ pieceA a = some x
  | [], ps, h => by cases h; exact ⟨rfl, fun j x h => by simp at h⟩
  | a :: l, ps, h => by
    unfold piecesA at h
    split at h
    · rename_i x r h1 h2
      cases h
      obtain ⟨q1, q2⟩ := pieces_at h2
      refine ⟨by simp [q1], fun j y hj => ?_⟩
      cases j with
      | zero => simp at hj; subst hj; exact ⟨a, rfl, h1⟩
      | succ j => simpa using q2 j y (by simpa using hj)
    · cases h
theorem nat40_ok : NatOK Tryd.prog 40 joinNat2 := by
  intro args h v h' e ρ w us hr _ _ hv
  unfold joinNat2 at e
  split at e
  · rename_i b off len cap n s
    split at e
    · rename_i hc
      obtain ⟨h0, h9, rfl, rfl⟩ := hc
      unfold joinB at e
      split at e
      · rename_i ro sz cs hb
        split at e
        · rename_i hle
          unfold joinL at e
          split at e
          · rename_i ps hps
            split at e
            · rename_i hlen
              cases e
              obtain ⟨hpl, hpa⟩ := pieces_at hps
              rw [List.length_map, List.length_range] at hpl
              unfold VL at hv
              obtain ⟨u, r, rfl, hu, hv⟩ := hv
              obtain ⟨u2, rfl, hu2⟩ := one_arg hv
              obtain ⟨B, o, N, c, ad, hbk, rfl, hlc, had, hcap⟩ := VR_slice.1 hu
              obtain rfl : ad = ⟨B, o + off, none⟩ := had.resolve_right (by omega)
              have hbr := hr.blk b B o N hbk
              rw [hb] at hbr
              obtain ⟨cw, e', fz, q1, q2, q3, q4, q5⟩ := hbr
              have hcells : ∀ (j : Nat) (x : ByteArray), (ps.map fun x => (⟨x.toArray⟩ : ByteArray))[j]? = some x → w.cell? ⟨B, o + off + j, none⟩ = some (.string x) := fun j x hx => by
                rw [List.getElem?_map] at hx
                obtain ⟨y, hy, rfl⟩ := Option.map_eq_some_iff.1 hx
                obtain ⟨a, ha1, ha2⟩ := hpa j y hy
                have hj : j < ps.length := (List.getElem?_eq_some_iff.1 hy).1
                rw [List.getElem?_map, List.getElem?_range (by omega)] at ha1
                cases ha1
                obtain ⟨u, k1, k2, k3⟩ := q5 (off + j) (by omega)
                rw [cell_at q1, show o + off + j = o + (off + j) by omega, k1, piece_at ha2 k2]
              have hB : B < w.heap.size := (Array.getElem?_eq_some_iff.1 q1).1
              obtain ⟨sp, rfl, s1, s2⟩ := VR_str.1 hu2
              have hsp : sp.data.toList = [32] := codesL_inj (m := [32]) s1 s2
              have hmap : ((ps.map fun x => (⟨x.toArray⟩ : ByteArray)).map (·.data.toList)) = ps := by simp [Function.comp_def]
              have key := Tryd.strings_Join B (o + off) c (ps.map fun x => (⟨x.toArray⟩ : ByteArray)) sp w hcells hB (by simp; omega) (by rw [List.length_map, hpl]; exact hlc) (by rw [hmap, hsp]; omega)
              rw [hmap, List.length_map, hpl, hsp] at key
              refine ⟨callFunc_run Tryd.func40 rfl (by kernel_rfl), key.mono fun e' w' q => ?_⟩
              obtain ⟨q1, q2⟩ := q
              exact ⟨_, ρ, q1, VR_str.2 ⟨_, rfl, rfl, rfl⟩, Kept.st hr (⟨q2.size, q2.block, q2.tape, q2.os, q2.output⟩ : Kept w w')⟩
            · exact (fail_val e).elim
          · exact (fail_val e).elim
        · exact (fail_val e).elim
      · exact (fail_val e).elim
    · exact (fail_val e).elim
  · exact (fail_val e).elim
end
end Go.Proofs.YtjljolnhmmbkoaaDoor
namespace Go.Proofs.YtjljolnhmmbkoaaDoor
open Go.Eng
set_option autoImplicit false
set_option maxRecDepth 100000
variable {nat : ∀ [Deep], Nats}
/-- the library's functions that are met by their contracts -/
structure ShowCtx (nat : ∀ [Deep], Nats) : Prop where
  h39 : ∀ [Deep], nat 39 = none
  h40 : ∀ [Deep], nat 40 = some joinNat2
  h64 : ∀ [Deep], nat 64 = some (fnNat F64)
  h70 : ∀ [Deep], nat 70 = some (fnNat F70)
  h71 : ∀ [Deep], nat 71 = some (fnNat F71)
  h72 : ∀ [Deep], nat 72 = some (fnNat F72)
theorem fn_call {f : FuncId} {F : List AV → Option AV} {args : List AV} {v : AV} {η : HN} (h : ∀ [Deep], nat f = some (fnNat F)) (e : F args = some v) : CallN Tryd.prog nat f args η v η :=
  callN_nat (g := fnNat F) h (HV.pure fun h => by show (match F args with | some v => RV.val v h | none => .fail 97) = _; rw [e])
def tabR : List AV := (List.range 20).map fun i => .int .u64 (10 ^ i)
theorem tabR_at {i : Nat} (h : i < 20) : tabR[i]? = some (.int .u64 (10 ^ i)) := by unfold tabR; rw [List.getElem?_map, List.getElem?_range h]; rfl
theorem nd_call (U : Usual nat) (X : ShowCtx nat) {η : HN} {u : Nat} (ht : η.f 0 = .live true tabR) (h1 : 1 ≤ u) (h2 : u < 18446744073709551616) : CallN Tryd.prog nat 65 [.int .u64 u] η (.int .i64 (Lib.nDigits u)) η := by
  have : ∃ v η', CallN Tryd.prog nat 65 [.int .u64 u] η v η' ∧ v = .int .i64 (Lib.nDigits u) ∧ η' = η := by
    refine call_of (PT := pl65) Tryd.func65 rfl (U 65 (by decide)) ok65 rfl ?_
    obtain ⟨e1, e2⟩ := Lib.numDigits_eq u h1 h2
    have b64 := bitLen_le u
    simp -implicitDefEqProofs (disch := omega) only [go_sem]
    refine thenN_call ⟨_, _, fn_call X.h71 (show F71 [.int .u64 u] = some _ from rfl), ?_⟩
    simp -implicitDefEqProofs (disch := omega) only [go_sem]
    refine thenN_call ⟨_, _, fn_call X.h70 (show F70 [.int .i64 (Lib.bitLen u)] = some _ from if_pos b64), ?_⟩
    have hr := tabR_at (show Lib.l10 (Lib.bitLen u) < 20 by omega)
    generalize Lib.l10 (Lib.bitLen u) = k at *
    have hp : 10 ^ k ≤ 10 ^ 19 := Nat.pow_le_pow_right (by decide) e2
    by_cases hc : 10 ^ k ≤ u
    · rw [if_pos hc] at e1
      simp -implicitDefEqProofs (disch := omega) only [go_sem, ht, hr]
      refine thenN_call ⟨_, _, fn_call X.h72 (show F72 [.bool true] = some _ from rfl), ?_⟩
      rw [← e1]
      simp -implicitDefEqProofs (disch := omega) only [go_sem]
    · rw [if_neg hc] at e1
      simp -implicitDefEqProofs (disch := omega) only [go_sem, ht, hr]
      refine thenN_call ⟨_, _, fn_call X.h72 (show F72 [.bool false] = some _ from rfl), ?_⟩
      rw [← e1]
      simp -implicitDefEqProofs (disch := omega) only [go_sem]
  obtain ⟨v, η', k, rfl, rfl⟩ := this
  exact k
def SM : Nat := 9938655150514779720929161263213647789093395803754561035662628441001274968862597953692946393464194303251501229616933063375291039650253924995779037586872666250072396106842829501851083234932712366962979930255066872747696324303968523733872590022915936937156789320557469720923390131174387415513794469201054844961267015441141542819553679203788501627738430154234325528792480477051962324423099068299719245009424585859096469223093538032153047611602695245052081125123941502624659711709950000
@[go_sem] theorem opd_smalls {φ : FN} : opd φ (.const (.string ⟨(([48, 48, 48, 49, 48, 50, 48, 51, 48, 52, 48, 53, 48, 54, 48, 55, 48, 56, 48, 57, 49, 48, 49, 49, 49, 50, 49, 51, 49, 52, 49, 53, 49, 54, 49, 55, 49, 56, 49, 57, 50, 48, 50, 49, 50, 50, 50, 51, 50, 52].append [50, 53, 50, 54, 50, 55, 50, 56, 50, 57, 51, 48, 51, 49, 51, 50, 51, 51, 51, 52, 51, 53, 51, 54, 51, 55, 51, 56, 51, 57, 52, 48, 52, 49, 52, 50, 52, 51, 52, 52, 52, 53, 52, 54, 52, 55, 52, 56, 52, 57]).append ([53, 48, 53, 49, 53, 50, 53, 51, 53, 52, 53, 53, 53, 54, 53, 55, 53, 56, 53, 57, 54, 48, 54, 49, 54, 50, 54, 51, 54, 52, 54, 53, 54, 54, 54, 55, 54, 56, 54, 57, 55, 48, 55, 49, 55, 50, 55, 51, 55, 52].append [55, 53, 55, 54, 55, 55, 55, 56, 55, 57, 56, 48, 56, 49, 56, 50, 56, 51, 56, 52, 56, 53, 56, 54, 56, 55, 56, 56, 56, 57, 57, 48, 57, 49, 57, 50, 57, 51, 57, 52, 57, 53, 57, 54, 57, 55, 57, 56, 57, 57])).toArray⟩)) = .str 200 SM := rfl
theorem sm_odd : ∀ r, r < 100 → strAt SM (r * 2 + 1) = 48 + r % 10 := by decide +kernel
theorem sm_even : ∀ r, r < 100 → strAt SM (r * 2) = 48 + r / 10 := by decide +kernel
@[go_sem] theorem sm_o {r : Nat} (h : r < 100) : strAt SM (r * 2 + 1) = 48 + r % 10 := sm_odd r h
@[go_sem] theorem sm_e {r : Nat} (h : r < 100) : strAt SM (r * 2) = 48 + r / 10 := sm_even r h
@[go_sem] theorem quo_u32 {a b : Nat} (ha : a < 4294967296) (hb : b < 4294967296) : quoN .u32 a b = a / b := by
  unfold quoN nneg; rw [ble_true.2 (show Nat.succ a ≤ halfN .u32 from ha), ble_true.2 (show Nat.succ b ≤ halfN .u32 from hb)]; rfl
@[go_sem] theorem rem_u32 {a b : Nat} (ha : a < 4294967296) (hb : b < 4294967296) : remN .u32 a b = a % b := by
  unfold remN nneg; rw [ble_true.2 (show Nat.succ a ≤ halfN .u32 from ha), ble_true.2 (show Nat.succ b ≤ halfN .u32 from hb)]; rfl
/-- so many places behind hold their digits -/
def Pt (row0 : List AV) (n u i : Nat) (row : List AV) : Prop := row.length = 24 ∧ ∀ j, j < 24 → row[j]? = if 1 + i ≤ j ∧ j < 1 + n then some (.int .u8 (48 + u / 10 ^ (n - j) % 10)) else row0[j]?
theorem pt_step {row0 row : List AV} {n u i a : Nat} (k : Nat) (h : Pt row0 n u (i - k) row) (hk : k + 1 ≤ i) (hi : i ≤ n) (hn : n ≤ 23) (ha : a = 48 + u / 10 ^ (n - i) / 10 ^ k % 10) : Pt row0 n u (i - (k + 1)) (row.set (1 + (i - (k + 1))) (.int .u8 a)) := by
  obtain ⟨h1, h2⟩ := h
  refine ⟨by rw [List.length_set, h1], fun j hj => ?_⟩
  rw [List.getElem?_set]
  by_cases e : 1 + (i - (k + 1)) = j
  · rw [if_pos e, if_pos (by omega), if_pos ⟨by omega, by omega⟩, ha, Nat.div_div_eq_div_mul, ← Nat.pow_add, show n - i + k = n - j by omega]
  · rw [if_neg e, h2 j hj]
    by_cases q : 1 + (i - k) ≤ j ∧ j < 1 + n
    · rw [if_pos q, if_pos ⟨by omega, q.2⟩]
    · rw [if_neg q, if_neg (by omega)]
theorem pt0 {row : List AV} {n u : Nat} (h : row.length = 24) : Pt row n u n row := ⟨h, fun j hj => by rw [if_neg (by omega)]⟩
set_option maxHeartbeats 4000000 in
theorem fmt_then (U : Usual nat) {η : HN} {D n u : Nat} {row : List AV} {Q : AV → HN → Prop} (hD : η.f D = .live false row) (hl : row.length = 24) (hn : n ≤ 23) (hu : u < 10 ^ n) (hu64 : u < 18446744073709551616)
    (h : ∀ η' row', η'.f D = .live false row' → Pt row n u 0 row' → η'.nx = η.nx → (∀ b, b ≠ D → η'.f b = η.f b) → Q (.tup []) η') : ∃ v η', CallN Tryd.prog nat 66 [.slice D 1 n (.kn 23), .int .u64 u] η v η' ∧ Q v η' := by
  refine call_of (PT := pl66) Tryd.func66 rfl (U 66 (by decide)) ok66 rfl ?_
  simp -implicitDefEqProofs (disch := omega) only [go_sem]
  obtain ⟨I, hI⟩ : ∃ I : Nat → FN → HN → Prop, ∀ m φ ζ, I m φ ζ ↔ ∃ i uu row', m = i ∧ i ≤ n ∧ φ 0 = .slice D 1 n (.kn 23) ∧ φ 1 = .int .u64 uu ∧ φ 4 = .int .i64 i ∧ ζ.f D = .live false row' ∧ Pt row n u i row' ∧ uu = u / 10 ^ (n - i) ∧ ζ.nx = η.nx ∧ ∀ b, b ≠ D → ζ.f b = η.f b := ⟨_, fun _ _ _ => Iff.rfl⟩
  refine wpN_loop I n ((hI _ _ _).2 ⟨n, u, row, rfl, Nat.le_refl _, rfl, rfl, rfl, hD, pt0 hl, by rw [Nat.sub_self, Nat.pow_zero, Nat.div_one], rfl, fun _ _ => rfl⟩) ?_
  intro m φ ζ hi
  obtain ⟨i, uu, row', hm, hi, p0, p1, p4, hf, hpt, huu, hnx, hk⟩ := (hI _ _ _).1 hi
  have hl' := hpt.1
  have hlt : uu < 10 ^ i := by
    rw [huu]
    refine Nat.div_lt_of_lt_mul ?_
    rw [← Nat.pow_add, show n - i + i = n by omega]
    exact hu
  have hu2 : uu < 18446744073709551616 := Nat.lt_of_le_of_lt (by rw [huu]; exact Nat.div_le_self _ _) hu64
  by_cases h8 : 8 ≤ i
  · simp -implicitDefEqProofs (disch := omega) only [go_sem, p0, p1, p4, hf, hl']
    have e8 : u / 10 ^ (n - (i - 8)) = uu / 100000000 := by rw [huu, show n - (i - 8) = n - i + 8 by omega, Nat.pow_add, ← Nat.div_div_eq_div_mul]
    have t0 := pt_step 0 (a := 48 + uu % 100000000 % 10000 % 100 % 10) hpt (by omega) hi hn (by rw [← huu]; show 48 + uu % 100000000 % 10000 % 100 % 10 = 48 + uu / 1 % 10; omega)
    have t1 := pt_step 1 (a := 48 + uu % 100000000 % 10000 % 100 / 10) t0 (by omega) hi hn (by rw [← huu]; show 48 + uu % 100000000 % 10000 % 100 / 10 = 48 + uu / 10 % 10; omega)
    have t2 := pt_step 2 (a := 48 + uu % 100000000 % 10000 / 100 % 10) t1 (by omega) hi hn (by rw [← huu]; show 48 + uu % 100000000 % 10000 / 100 % 10 = 48 + uu / 100 % 10; omega)
    have t3 := pt_step 3 (a := 48 + uu % 100000000 % 10000 / 100 / 10) t2 (by omega) hi hn (by rw [← huu]; show 48 + uu % 100000000 % 10000 / 100 / 10 = 48 + uu / 1000 % 10; omega)
    have t4 := pt_step 4 (a := 48 + uu % 100000000 / 10000 % 100 % 10) t3 (by omega) hi hn (by rw [← huu]; show 48 + uu % 100000000 / 10000 % 100 % 10 = 48 + uu / 10000 % 10; omega)
    have t5 := pt_step 5 (a := 48 + uu % 100000000 / 10000 % 100 / 10) t4 (by omega) hi hn (by rw [← huu]; show 48 + uu % 100000000 / 10000 % 100 / 10 = 48 + uu / 100000 % 10; omega)
    have t6 := pt_step 6 (a := 48 + uu % 100000000 / 10000 / 100 % 10) t5 (by omega) hi hn (by rw [← huu]; show 48 + uu % 100000000 / 10000 / 100 % 10 = 48 + uu / 1000000 % 10; omega)
    have t7 := pt_step 7 (a := 48 + uu % 100000000 / 10000 / 100 / 10) t6 (by omega) hi hn (by rw [← huu]; show 48 + uu % 100000000 / 10000 / 100 / 10 = 48 + uu / 10000000 % 10; omega)
    refine ⟨i - 8, by omega, (hI _ _ _).2 ⟨i - 8, uu / 100000000, _, rfl, by omega, p0, rfl, rfl, by show (if D = D then _ else _) = _; rw [if_pos rfl], t7, e8.symm, hnx, fun b hb => ?_⟩⟩
    simp only [put_f, if_neg hb]
    exact hk b hb
  clear hI
  by_cases hc0 : i = 0
  · subst hc0
    have hlt : uu < 1 := hlt
    simp -implicitDefEqProofs (disch := omega) only [go_sem, p0, p1, p4, hf, hl']
    exact h _ _ hf hpt hnx hk
  by_cases hc1 : i = 1
  · subst hc1
    have hlt : uu < 10 := hlt
    simp -implicitDefEqProofs (disch := omega) only [go_sem, p0, p1, p4, hf, hl']
    have t0 := pt_step (i := 1) 0 (a := 48 + uu) hpt (by omega) hi hn (by rw [← huu]; show 48 + uu = 48 + uu / 1 % 10; omega)
    refine h _ _ (by show (if D = D then _ else _) = _; rw [if_pos rfl]) t0 hnx fun b hb => ?_
    simp only [put_f, if_neg hb]
    exact hk b hb
  by_cases hc2 : i = 2
  · subst hc2
    have hlt : uu < 100 := hlt
    simp -implicitDefEqProofs (disch := omega) only [go_sem, p0, p1, p4, hf, hl']
    have t0 := pt_step (i := 2) 0 (a := 48 + uu % 100 % 10) hpt (by omega) hi hn (by rw [← huu]; show 48 + uu % 100 % 10 = 48 + uu / 1 % 10; omega)
    have t1 := pt_step (i := 2) 1 (a := 48 + uu % 100 / 10) t0 (by omega) hi hn (by rw [← huu]; show 48 + uu % 100 / 10 = 48 + uu / 10 % 10; omega)
    refine h _ _ (by show (if D = D then _ else _) = _; rw [if_pos rfl]) t1 hnx fun b hb => ?_
    simp only [put_f, if_neg hb]
    exact hk b hb
  by_cases hc3 : i = 3
  · subst hc3
    have hlt : uu < 1000 := hlt
    simp -implicitDefEqProofs (disch := omega) only [go_sem, p0, p1, p4, hf, hl']
    have t0 := pt_step (i := 3) 0 (a := 48 + uu % 100 % 10) hpt (by omega) hi hn (by rw [← huu]; show 48 + uu % 100 % 10 = 48 + uu / 1 % 10; omega)
    have t1 := pt_step (i := 3) 1 (a := 48 + uu % 100 / 10) t0 (by omega) hi hn (by rw [← huu]; show 48 + uu % 100 / 10 = 48 + uu / 10 % 10; omega)
    have t2 := pt_step (i := 3) 2 (a := 48 + uu / 100) t1 (by omega) hi hn (by rw [← huu]; show 48 + uu / 100 = 48 + uu / 100 % 10; omega)
    refine h _ _ (by show (if D = D then _ else _) = _; rw [if_pos rfl]) t2 hnx fun b hb => ?_
    simp only [put_f, if_neg hb]
    exact hk b hb
  by_cases hc4 : i = 4
  · subst hc4
    have hlt : uu < 10000 := hlt
    simp -implicitDefEqProofs (disch := omega) only [go_sem, p0, p1, p4, hf, hl']
    have t0 := pt_step (i := 4) 0 (a := 48 + uu % 10000 % 100 % 10) hpt (by omega) hi hn (by rw [← huu]; show 48 + uu % 10000 % 100 % 10 = 48 + uu / 1 % 10; omega)
    have t1 := pt_step (i := 4) 1 (a := 48 + uu % 10000 % 100 / 10) t0 (by omega) hi hn (by rw [← huu]; show 48 + uu % 10000 % 100 / 10 = 48 + uu / 10 % 10; omega)
    have t2 := pt_step (i := 4) 2 (a := 48 + uu % 10000 / 100 % 10) t1 (by omega) hi hn (by rw [← huu]; show 48 + uu % 10000 / 100 % 10 = 48 + uu / 100 % 10; omega)
    have t3 := pt_step (i := 4) 3 (a := 48 + uu % 10000 / 100 / 10) t2 (by omega) hi hn (by rw [← huu]; show 48 + uu % 10000 / 100 / 10 = 48 + uu / 1000 % 10; omega)
    refine h _ _ (by show (if D = D then _ else _) = _; rw [if_pos rfl]) t3 hnx fun b hb => ?_
    simp only [put_f, if_neg hb]
    exact hk b hb
  by_cases hc5 : i = 5
  · subst hc5
    have hlt : uu < 100000 := hlt
    simp -implicitDefEqProofs (disch := omega) only [go_sem, p0, p1, p4, hf, hl']
    have t0 := pt_step (i := 5) 0 (a := 48 + uu % 10000 % 100 % 10) hpt (by omega) hi hn (by rw [← huu]; show 48 + uu % 10000 % 100 % 10 = 48 + uu / 1 % 10; omega)
    have t1 := pt_step (i := 5) 1 (a := 48 + uu % 10000 % 100 / 10) t0 (by omega) hi hn (by rw [← huu]; show 48 + uu % 10000 % 100 / 10 = 48 + uu / 10 % 10; omega)
    have t2 := pt_step (i := 5) 2 (a := 48 + uu % 10000 / 100 % 10) t1 (by omega) hi hn (by rw [← huu]; show 48 + uu % 10000 / 100 % 10 = 48 + uu / 100 % 10; omega)
    have t3 := pt_step (i := 5) 3 (a := 48 + uu % 10000 / 100 / 10) t2 (by omega) hi hn (by rw [← huu]; show 48 + uu % 10000 / 100 / 10 = 48 + uu / 1000 % 10; omega)
    have t4 := pt_step (i := 5) 4 (a := 48 + uu / 10000) t3 (by omega) hi hn (by rw [← huu]; show 48 + uu / 10000 = 48 + uu / 10000 % 10; omega)
    refine h _ _ (by show (if D = D then _ else _) = _; rw [if_pos rfl]) t4 hnx fun b hb => ?_
    simp only [put_f, if_neg hb]
    exact hk b hb
  by_cases hc6 : i = 6
  · subst hc6
    have hlt : uu < 1000000 := hlt
    simp -implicitDefEqProofs (disch := omega) only [go_sem, p0, p1, p4, hf, hl']
    have t0 := pt_step (i := 6) 0 (a := 48 + uu % 10000 % 100 % 10) hpt (by omega) hi hn (by rw [← huu]; show 48 + uu % 10000 % 100 % 10 = 48 + uu / 1 % 10; omega)
    have t1 := pt_step (i := 6) 1 (a := 48 + uu % 10000 % 100 / 10) t0 (by omega) hi hn (by rw [← huu]; show 48 + uu % 10000 % 100 / 10 = 48 + uu / 10 % 10; omega)
    have t2 := pt_step (i := 6) 2 (a := 48 + uu % 10000 / 100 % 10) t1 (by omega) hi hn (by rw [← huu]; show 48 + uu % 10000 / 100 % 10 = 48 + uu / 100 % 10; omega)
    have t3 := pt_step (i := 6) 3 (a := 48 + uu % 10000 / 100 / 10) t2 (by omega) hi hn (by rw [← huu]; show 48 + uu % 10000 / 100 / 10 = 48 + uu / 1000 % 10; omega)
    have t4 := pt_step (i := 6) 4 (a := 48 + uu / 10000 % 100 % 10) t3 (by omega) hi hn (by rw [← huu]; show 48 + uu / 10000 % 100 % 10 = 48 + uu / 10000 % 10; omega)
    have t5 := pt_step (i := 6) 5 (a := 48 + uu / 10000 % 100 / 10) t4 (by omega) hi hn (by rw [← huu]; show 48 + uu / 10000 % 100 / 10 = 48 + uu / 100000 % 10; omega)
    refine h _ _ (by show (if D = D then _ else _) = _; rw [if_pos rfl]) t5 hnx fun b hb => ?_
    simp only [put_f, if_neg hb]
    exact hk b hb
  by_cases hc7 : i = 7
  · subst hc7
    have hlt : uu < 10000000 := hlt
    simp -implicitDefEqProofs (disch := omega) only [go_sem, p0, p1, p4, hf, hl']
    have t0 := pt_step (i := 7) 0 (a := 48 + uu % 10000 % 100 % 10) hpt (by omega) hi hn (by rw [← huu]; show 48 + uu % 10000 % 100 % 10 = 48 + uu / 1 % 10; omega)
    have t1 := pt_step (i := 7) 1 (a := 48 + uu % 10000 % 100 / 10) t0 (by omega) hi hn (by rw [← huu]; show 48 + uu % 10000 % 100 / 10 = 48 + uu / 10 % 10; omega)
    have t2 := pt_step (i := 7) 2 (a := 48 + uu % 10000 / 100 % 10) t1 (by omega) hi hn (by rw [← huu]; show 48 + uu % 10000 / 100 % 10 = 48 + uu / 100 % 10; omega)
    have t3 := pt_step (i := 7) 3 (a := 48 + uu % 10000 / 100 / 10) t2 (by omega) hi hn (by rw [← huu]; show 48 + uu % 10000 / 100 / 10 = 48 + uu / 1000 % 10; omega)
    have t4 := pt_step (i := 7) 4 (a := 48 + uu / 10000 % 100 % 10) t3 (by omega) hi hn (by rw [← huu]; show 48 + uu / 10000 % 100 % 10 = 48 + uu / 10000 % 10; omega)
    have t5 := pt_step (i := 7) 5 (a := 48 + uu / 10000 % 100 / 10) t4 (by omega) hi hn (by rw [← huu]; show 48 + uu / 10000 % 100 / 10 = 48 + uu / 100000 % 10; omega)
    have t6 := pt_step (i := 7) 6 (a := 48 + uu / 10000 / 100) t5 (by omega) hi hn (by rw [← huu]; show 48 + uu / 10000 / 100 = 48 + uu / 1000000 % 10; omega)
    refine h _ _ (by show (if D = D then _ else _) = _; rw [if_pos rfl]) t6 hnx fun b hb => ?_
    simp only [put_f, if_neg hb]
    exact hk b hb
  omega
end Go.Proofs.YtjljolnhmmbkoaaDoor
namespace Go.Proofs.YtjljolnhmmbkoaaDoor
open Go.Eng
set_option autoImplicit false
set_option maxRecDepth 100000
variable {nat : ∀ [Deep], Nats}
def digN (d u : Nat) : List Nat := (List.range d).map fun t => 48 + u / 10 ^ (d - 1 - t) % 10
def decN (u : Nat) : List Nat := digN (Lib.nDigits u) u
/-- an int's decimal numeral -/
def itoaL (v : Nat) : List Nat := if v < 9223372036854775808 then decN v else 45 :: decN (18446744073709551616 - v)
theorem digN_len (d u : Nat) : (digN d u).length = d := by unfold digN; simp
theorem digN_lt (d u : Nat) : ∀ x ∈ digN d u, x < 256 := by
  intro x hx
  unfold digN at hx
  obtain ⟨t, _, rfl⟩ := List.mem_map.1 hx
  have := Nat.mod_lt (u / 10 ^ (d - 1 - t)) (show 10 > 0 by decide)
  omega
theorem codes_bV : ∀ l : List UInt8, codesL l = bV (l.map UInt8.toNat)
  | [] => rfl
  | b :: l => by rw [codesL_cons, codes_bV l]; rfl
theorem dec_toNat (u : Nat) : (Lib.decDigits u).map UInt8.toNat = decN u := by
  rw [Lib.decDigits_eq]
  unfold decN digN
  rw [List.map_map]
  refine List.map_congr_left fun t _ => ?_
  show (Lib.dg u (Lib.nDigits u - 1 - t)).toNat = _
  unfold Lib.dg
  have := Nat.mod_lt (u / 10 ^ (Lib.nDigits u - 1 - t)) (show 10 > 0 by decide)
  rw [UInt8.toNat_ofNat']
  omega
theorem decN_lt (u : Nat) : ∀ x ∈ decN u, x < 256 := digN_lt _ _
theorem nDig_le {u : Nat} (h1 : 1 ≤ u) (h2 : u < 18446744073709551616) : Lib.nDigits u ≤ 20 := by
  obtain ⟨e1, e2⟩ := Lib.numDigits_eq u h1 h2
  split at e1 <;> omega
theorem pt_read {row0 row : List AV} {n u : Nat} (h : Pt row0 n u 0 row) (hn : n ≤ 23) : (row.drop 1).take n = u8s (digN n u) := by
  obtain ⟨h1, h2⟩ := h
  apply List.ext_getElem?
  intro j
  unfold u8s
  rw [List.getElem?_take, List.getElem?_map]
  by_cases hj : j < n
  · rw [if_pos hj, List.getElem?_drop, h2 _ (by omega), if_pos ⟨by omega, by omega⟩]
    unfold digN
    rw [List.getElem?_map, List.getElem?_range hj, show n - (1 + j) = n - 1 - j by omega]; rfl
  · rw [if_neg hj, List.getElem?_eq_none (by rw [digN_len]; omega)]; rfl
set_option maxHeartbeats 2000000 in
theorem fi60_then (U : Usual nat) (X : ShowCtx nat) {η : HN} {v : Nat} {Q : AV → HN → Prop} (ht : η.f 0 = .live true tabR) (h0 : 0 < η.nx) (hv : v < 18446744073709551616)
    (h : ∀ η', ExtB η.nx η η' → Q (.str (itoaL v).length (bV (itoaL v))) η') : ∃ v' η', CallN Tryd.prog nat 60 [.int .i64 v, .int .i64 10] η v' η' ∧ Q v' η' := by
  refine call_of (PT := pl60) Tryd.func60 rfl (U 60 (by decide)) ok60 rfl ?_
  by_cases hs : v < 100
  · simp -implicitDefEqProofs (disch := omega) only [go_sem]
    refine thenN_call ⟨_, _, fn_call X.h64 (show F64 [.int .i64 v] = some _ from if_pos hs), ?_⟩
    simp -implicitDefEqProofs (disch := omega) only [go_sem]
    have e : itoaL v = decN v := if_pos (by omega)
    have := h η (.refl _ _)
    rw [e, ← dec_toNat, List.length_map, ← codes_bV] at this
    exact this
  have main : ∀ (u : Nat) (row : List AV), u = 0 ∨ True := fun _ _ => .inr trivial
  obtain ⟨ζ0, hζ⟩ : ∃ ζ, ζ = η.new (.live false (List.replicate 24 (AV.int .u8 0))) := ⟨_, rfl⟩
  have E0 : ExtB η.nx η ζ0 := by rw [hζ]; exact extN (.refl _ _)
  have t0 := (E0.2 0 h0).trans ht
  have z0 : ζ0.f η.nx = .live false (List.replicate 24 (AV.int .u8 0)) := by rw [hζ]; show (if η.nx = η.nx then _ else _) = _; rw [if_pos rfl]
  have m0 : ζ0.nx = η.nx + 1 := by rw [hζ]; rfl
  by_cases hneg : v < 9223372036854775808
  · have e : itoaL v = decN v := if_pos hneg
    rw [e] at h
    unfold decN at h
    have hd := nDig_le (show 1 ≤ v by omega) hv
    have hd1 := Lib.nDigits_pos v
    have hlt := Lib.lt_pow_nDigits v
    have ndc := nd_call U X t0 (show 1 ≤ v by omega) hv
    generalize Lib.nDigits v = d at *
    have hd' : 1 + d - 1 = d := by omega
    rw [digN_len] at h
    simp -implicitDefEqProofs (disch := omega) only [go_sem, ← hζ]
    refine thenN_call ⟨_, _, ndc, ?_⟩
    simp -implicitDefEqProofs (disch := omega) only [go_sem, z0, hd']
    refine thenN_call (fmt_then U z0 (List.length_replicate) (by omega) hlt hv fun η2 row f2 pt n2 k2 => ?_)
    have hrow := pt.1
    have hp := pt_read pt (show d ≤ 23 by omega)
    have hb := bytesN_bV (digN d v)
    simp -implicitDefEqProofs (disch := omega) only [go_sem, f2, hd', hp, hb]
    exact h _ ⟨by omega, fun b hb => (k2 b (by omega)).trans (E0.2 b hb)⟩
  · have e : itoaL v = 45 :: decN (18446744073709551616 - v) := if_neg hneg
    rw [e] at h
    unfold decN at h
    obtain ⟨u, hu⟩ : ∃ u, u = 18446744073709551616 - v := ⟨_, rfl⟩
    rw [← hu] at h
    have hu1 : 1 ≤ u := by omega
    have hu2 : u < 18446744073709551616 := by omega
    have hd := nDig_le hu1 hu2
    have hd1 := Lib.nDigits_pos u
    have hlt := Lib.lt_pow_nDigits u
    have ndc := nd_call U X t0 hu1 hu2
    have hl : ltN .i64 v 0 = true := by unfold ltN; rw [nneg_big hneg]; rfl
    have hcv := cvt_neg hneg hv
    have hng : (18446744073709551616 - v) % 18446744073709551616 = u := by omega
    generalize Lib.nDigits u = d at *
    have hd' : 1 + d - 1 = d := by omega
    rw [List.length_cons, digN_len, Nat.add_comm d 1] at h
    simp -implicitDefEqProofs (disch := omega) only [go_sem, ← hζ, hl, hcv, hng]
    refine thenN_call ⟨_, _, ndc, ?_⟩
    simp -implicitDefEqProofs (disch := omega) only [go_sem, z0, hd']
    refine thenN_call (fmt_then U z0 (List.length_replicate) (by omega) hlt hu2 fun η2 row f2 pt n2 k2 => ?_)
    have hrow := pt.1
    have f3 : (η2.put η.nx (.live false (row.set 0 (.int .u8 45)))).f η.nx = .live false (row.set 0 (.int .u8 45)) := by show (if η.nx = η.nx then _ else _) = _; rw [if_pos rfl]
    have hrd : ((row.set 0 (.int .u8 45)).drop 0).take (1 + d) = u8s (45 :: digN d u) := by
      have hp := pt_read pt (by omega)
      match row, hrow with
      | a :: r, _ =>
        have hp : r.take d = u8s (digN d u) := hp
        rw [List.set_cons_zero, List.drop_zero, Nat.add_comm, List.take_succ_cons, hp]; rfl
    rw [List.drop_zero] at hrd
    have hb := bytesN_bV (45 :: digN d u)
    simp -implicitDefEqProofs (disch := omega) only [go_sem, f2, hl, hrow, f3, hrd, hb]
    exact h _ ⟨by show η.nx ≤ η2.nx; omega, fun b hb => by show (if b = η.nx then _ else _) = _; rw [if_neg (by omega)]; exact (k2 b (by omega)).trans (E0.2 b hb)⟩
theorem itoa_then (U : Usual nat) (X : ShowCtx nat) {η : HN} {v : Nat} {Q : AV → HN → Prop} (ht : η.f 0 = .live true tabR) (h0 : 0 < η.nx) (hv : v < 18446744073709551616)
    (h : ∀ η', ExtB η.nx η η' → Q (.str (itoaL v).length (bV (itoaL v))) η') : ∃ v' η', CallN Tryd.prog nat 39 [.int .i64 v] η v' η' ∧ Q v' η' := by
  refine call_of (PT := pl39) Tryd.func39 rfl X.h39 ok39 rfl ?_
  simp -implicitDefEqProofs (disch := omega) only [go_sem]
  have k54 : ∃ v' η', CallN Tryd.prog nat 54 [.int .i64 v] η v' η' ∧ v' = .str (itoaL v).length (bV (itoaL v)) ∧ ExtB η.nx η η' := by
    refine call_of (PT := pl54) Tryd.func54 rfl (U 54 (by decide)) ok54 rfl ?_
    simp -implicitDefEqProofs (disch := omega) only [go_sem]
    refine thenN_call (fi60_then U X ht h0 hv fun η' E => ?_)
    simp -implicitDefEqProofs (disch := omega) only [go_sem]
    exact E
  obtain ⟨v', η', k, rfl, E⟩ := k54
  refine thenN_call ⟨_, _, k, ?_⟩
  simp -implicitDefEqProofs (disch := omega) only [go_sem]
  exact h η' E
theorem itoaL_lt {v : Nat} : ∀ x ∈ itoaL v, x < 256 := by
  unfold itoaL
  intro x hx
  split at hx
  · exact decN_lt _ x hx
  · rcases List.mem_cons.1 hx with rfl | hx
    · decide
    · exact decN_lt _ x hx
end Go.Proofs.YtjljolnhmmbkoaaDoor
