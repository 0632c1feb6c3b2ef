/- What is proved: how another way comes to a place. Conditions: none. -/
import Derived.Test.YtjljolnhmmbkoaaValid12
set_option linter.unusedVariables false
set_option linter.unusedSimpArgs false
set_option linter.unusedSectionVars false
namespace Go.Proofs.Ytjljolnhmmbkoaa
open Go.Eng Go.Plain
set_option autoImplicit false
set_option maxRecDepth 100000
variable {nat : ∀ [Deep], Nats}
def andW (w v : List Nat) : List Nat := List.zipWith (fun a b => a &&& b) w v
def mixW (w v : List Nat) (i : Nat) : List Nat := (andW w v).take i ++ w.drop i
theorem andW_len {w v : List Nat} (h : w.length = v.length) : (andW w v).length = w.length := by unfold andW; simp; omega
theorem mixW_len {w v : List Nat} (h : w.length = v.length) {i : Nat} (hi : i ≤ w.length) : (mixW w v i).length = w.length := by
  unfold mixW; rw [List.length_append, List.length_take, List.length_drop, andW_len h]; omega
theorem mixW_0 {w v : List Nat} : mixW w v 0 = w := rfl
theorem mixW_all {w v : List Nat} (h : w.length = v.length) : mixW w v w.length = andW w v := by
  unfold mixW; rw [List.drop_length, List.append_nil, List.take_of_length_le (by rw [andW_len h]; exact Nat.le_refl _)]
theorem mixW_at {w v : List Nat} (h : w.length = v.length) {i : Nat} (hi : i < w.length) : (mixW w v i)[i]? = some w[i] := by
  unfold mixW
  have hl : ((andW w v).take i).length = i := by rw [List.length_take, andW_len h]; omega
  rw [List.getElem?_append_right (by omega), hl, Nat.sub_self, List.getElem?_drop, Nat.add_zero, List.getElem?_eq_getElem hi]
theorem mixW_set {w v : List Nat} (h : w.length = v.length) {i : Nat} (hi : i < w.length) : (mixW w v i).set i (w[i] &&& v[i]'(by omega)) = mixW w v (i + 1) := by
  unfold mixW
  have hl : ((andW w v).take i).length = i := by rw [List.length_take, andW_len h]; omega
  rw [List.set_append, if_neg (by omega), hl, Nat.sub_self, List.drop_eq_getElem_cons hi, List.set_cons_zero, List.take_succ_eq_append_getElem (by rw [andW_len h]; exact hi), List.append_assoc]
  congr 2
  unfold andW
  rw [List.getElem_zipWith]
theorem u64s_at {w : List Nat} {i x : Nat} (h : w[i]? = some x) : (u64s w)[i]? = some (.int .u64 x) := by unfold u64s; rw [List.getElem?_map, h]; rfl
theorem u64s_set (w : List Nat) (i x : Nat) : (u64s w).set i (.int .u64 x) = u64s (w.set i x) := by unfold u64s; rw [List.map_set]
theorem put_put {η : HN} {b : Nat} {x y : BN} : (η.put b x).put b y = η.put b y := by
  show HN.mk _ _ = HN.mk _ _
  congr 1; funext c
  show (if c = b then _ else if c = b then _ else _) = (if c = b then _ else _)
  split <;> rfl
theorem put_self {η : HN} {b : Nat} {y : BN} (h : η.f b = y) : η.put b y = η := by
  cases η with
  | mk nx f =>
    show HN.mk _ _ = HN.mk _ _
    congr 1; funext c
    show (if c = b then _ else _) = _
    split
    · rename_i e; rw [e]; exact h.symm
    · rfl
def mtI (a c : Nat) (η1 : HN) (bl off t bs : Nat) (w v : List Nat) (m : Nat) (φ : FN) (η : HN) : Prop := ∃ i, m = w.length - i ∧ i ≤ w.length ∧ φ 0 = .ptr bl off ∧ φ 3 = .ptr t 0 ∧ φ a = .int .i64 w.length ∧ φ c = .int .i64 i ∧ η = η1.put bs (.live false (u64s (mixW w v i)))
set_option maxHeartbeats 1000000 in
theorem meet_some (U : Usual nat) (η : HN) (bl off : Nat) (row : List AV) (bs bo : Nat) (caps capo : Cp) (ws wo : List Nat) (b1 b2 : Nat) (cap1 cap2 : Cp) (w1 w2 : List Nat) (hbl : η.f bl = .live false row) (hbn : bl < η.nx) (hlen : off + 3 ≤ row.length) (hr : row[off]? = some (.bool true))
    (hr1 : row[off + 1]? = some (.slice bs 0 ws.length caps)) (hr2 : row[off + 2]? = some (.slice bo 0 wo.length capo)) (hs : η.f bs = .live false (u64s ws)) (ho : η.f bo = .live false (u64s wo)) (hsn : bs < η.nx) (hon : bo < η.nx)
    (h1 : η.f b1 = .live false (u64s w1)) (hn1 : b1 < η.nx) (h2 : η.f b2 = .live false (u64s w2)) (hn2 : b2 < η.nx) (hl1 : ws.length = w1.length) (hl2 : wo.length = w2.length) (m1 : ws.length ≤ 1099511627776) (m2 : wo.length ≤ 1099511627776)
    (d1 : bs ≠ bl) (d2 : bo ≠ bl) (d3 : bs ≠ bo) (d4 : b1 ≠ bs) (d5 : b2 ≠ bs) (d6 : b2 ≠ bo) :
    ∃ v η', CallN Try.prog nat 83 [.ptr bl off, .agg [.bool true, .slice b1 0 w1.length cap1, .slice b2 0 w2.length cap2]] η v η' ∧
      ∃ η2, η' = (η2.put bs (.live false (u64s (andW ws w1)))).put bo (.live false (u64s (andW wo w2))) ∧ ExtB η.nx η η2 := by
  refine call_of (PT := pl83) Try.func83 rfl (U 83 (by decide)) ok83 rfl ?_
  have hlt := (List.getElem?_eq_some_iff.1 hr).1
  simp -implicitDefEqProofs (disch := omega) only [go_sem, hbl, hr, hr1, hr2, okO]
  have E1 : ExtB η.nx η (η.new (.live false [.bool true, .slice b1 0 w1.length cap1, .slice b2 0 w2.length cap2])) := extN (.refl _ _)
  have hnx : (η.new (.live false [.bool true, .slice b1 0 w1.length cap1, .slice b2 0 w2.length cap2])).nx = η.nx + 1 := rfl
  have ht : (η.new (.live false [.bool true, .slice b1 0 w1.length cap1, .slice b2 0 w2.length cap2])).f η.nx = .live false [.bool true, .slice b1 0 w1.length cap1, .slice b2 0 w2.length cap2] := by show (if η.nx = η.nx then _ else _) = _; rw [if_pos rfl]
  generalize η.new (.live false [.bool true, .slice b1 0 w1.length cap1, .slice b2 0 w2.length cap2]) = η1 at *
  have f1 := E1.2
  have hbl1 := (f1 _ hbn).trans hbl
  have hs1 := (f1 _ hsn).trans hs
  have ho1 := (f1 _ hon).trans ho
  have h11 := (f1 _ hn1).trans h1
  have h21 := (f1 _ hn2).trans h2
  refine wpN_loop (mtI 24 25 η1 bl off η.nx bs ws w1) ws.length ⟨0, by omega, by omega, rfl, rfl, rfl, rfl, (put_self hs1).symm⟩ ?_
  rintro m φ η2 ⟨i, hm, hi, p0, p3, p24, p25, rfl⟩
  by_cases hlt2 : i < ws.length
  · have g1 := u64s_at (mixW_at hl1 hlt2)
    have g2 := u64s_at (w := w1) (i := i) (List.getElem?_eq_getElem (by omega))
    have gl := u64s_len (mixW ws w1 i)
    have gl2 := mixW_len hl1 hi
    have gl3 := u64s_len w1
    simp -implicitDefEqProofs (disch := omega) only [go_sem, p0, p3, p24, p25, hbl1, hr1, ht, h11, g1, g2, okO, not_le_f, false_implies, and_true, true_and, implies_true]
    exact ⟨ws.length - (i + 1), by omega, i + 1, rfl, by omega, p0, p3, p24, rfl, by rw [put_put, u64s_set, mixW_set hl1 hlt2]⟩
  obtain rfl : i = ws.length := by omega
  rw [mixW_all hl1]
  simp -implicitDefEqProofs (disch := omega) only [go_sem, p0, p3, p24, p25, hbl1, hr2, okO]
  have ht3 : (η1.put bs (.live false (u64s (andW ws w1)))).f η.nx = .live false [.bool true, .slice b1 0 w1.length cap1, .slice b2 0 w2.length cap2] := by show (if η.nx = bs then _ else _) = _; rw [if_neg (by omega)]; exact ht
  have hb3 : (η1.put bs (.live false (u64s (andW ws w1)))).f bl = .live false row := by show (if bl = bs then _ else _) = _; rw [if_neg (by omega)]; exact hbl1
  have ho3 : (η1.put bs (.live false (u64s (andW ws w1)))).f bo = .live false (u64s wo) := by show (if bo = bs then _ else _) = _; rw [if_neg (by omega)]; exact ho1
  have h23 : (η1.put bs (.live false (u64s (andW ws w1)))).f b2 = .live false (u64s w2) := by show (if b2 = bs then _ else _) = _; rw [if_neg (by omega)]; exact h21
  refine wpN_loop (mtI 47 48 (η1.put bs (.live false (u64s (andW ws w1)))) bl off η.nx bo wo w2) wo.length ⟨0, by omega, by omega, p0, p3, rfl, rfl, (put_self ho3).symm⟩ ?_
  rintro m φ η2 ⟨i, hm, hi, p0, p3, p24, p25, rfl⟩
  by_cases hlt2 : i < wo.length
  · have g1 := u64s_at (mixW_at hl2 hlt2)
    have g2 := u64s_at (w := w2) (i := i) (List.getElem?_eq_getElem (by omega))
    have gl := u64s_len (mixW wo w2 i)
    have gl2 := mixW_len hl2 hi
    have gl3 := u64s_len w2
    simp -implicitDefEqProofs (disch := omega) only [go_sem, p0, p3, p24, p25, hbl1, hr2, ht, h21, g1, g2, okO, not_le_f, false_implies, and_true, true_and, implies_true]
    exact ⟨wo.length - (i + 1), by omega, i + 1, rfl, by omega, p0, p3, p24, rfl, by rw [put_put, u64s_set, mixW_set hl2 hlt2]⟩
  obtain rfl : i = wo.length := by omega
  rw [mixW_all hl2]
  simp -implicitDefEqProofs (disch := omega) only [go_sem, p0, p3, p24, p25, hbl1, hr2, okO]
  exact ⟨η1, rfl, E1⟩
end Go.Proofs.Ytjljolnhmmbkoaa
