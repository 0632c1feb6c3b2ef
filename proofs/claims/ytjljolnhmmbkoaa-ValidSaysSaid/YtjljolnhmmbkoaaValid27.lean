/- What is proved: slices of bools, as they are read; what both ways have written. Conditions: none. -/
import Derived.Test.YtjljolnhmmbkoaaValid24
set_option linter.unusedVariables false
set_option linter.unusedSimpArgs false
set_option linter.unusedSectionVars false
namespace Go.Proofs.Ytjljolnhmmbkoaa
open Go.Eng Go.Plain
set_option autoImplicit false
set_option maxRecDepth 100000
variable {nat : ∀ [Deep], Nats}
def boolsA (l : List Bool) : List AV := l.map .bool
theorem boolsA_len (l : List Bool) : (boolsA l).length = l.length := List.length_map _
theorem boolsA_at {l : List Bool} {i : Nat} (h : i < l.length) : (boolsA l)[i]? = some (.bool (l.getD i false)) := by
  unfold boolsA
  rw [List.getElem?_map, List.getElem?_eq_getElem h, List.getD_eq_getElem?_getD, List.getElem?_eq_getElem h]; rfl
theorem boolsA_set (l : List Bool) (i : Nat) (b : Bool) : (boolsA l).set i (.bool b) = boolsA (l.set i b) := by unfold boolsA; rw [List.map_set]
/-- a slice of bools that has a whole block -/
def BlB (η : HN) (v : AV) (l : List Bool) : Prop := ∃ b cap, v = .slice b 0 l.length cap ∧ b < η.nx ∧ η.f b = .live false (boolsA l)
theorem BlB.ext {η η' : HN} {v : AV} {l : List Bool} (h : BlB η v l) (e : ExtB η.nx η η') : BlB η' v l := by
  obtain ⟨b, cap, h1, h2, h3⟩ := h
  exact ⟨b, cap, h1, by have := e.1; omega, (e.2 b h2).trans h3⟩
/-- append([]bool{}, l...) -/
theorem app_bools {η : HN} {b : Nat} {cap : Cp} {l : List Bool} (hb : η.f b = .live false (boolsA l)) (hbn : b < η.nx) (hl : l.length ≤ 1099511627776) :
    ∃ v η', apSrcN 1 1 (.slice η.nx 0 0 (.kn 0)) (.slice b 0 l.length cap) (η.new (.live false [])) = .ok v η' ∧ (∃ c cap', v = .slice c 0 l.length cap' ∧ η.nx ≤ c ∧ c < η'.nx ∧ η'.f c = .live false (boolsA l)) ∧ ExtB η.nx η η' := by
  have hul := boolsA_len l
  by_cases h0 : l.length = 0
  · obtain rfl : l = [] := List.eq_nil_of_length_eq_zero h0
    refine ⟨.slice η.nx 0 0 (.kn 0), η.new (.live false []), ?_, ⟨η.nx, .kn 0, rfl, Nat.le_refl _, Nat.lt_succ_self _, by show (if η.nx = η.nx then _ else _) = _; rw [if_pos rfl]; rfl⟩, extN (.refl _ _)⟩
    simp -implicitDefEqProofs (disch := omega) only [go_sem, apSrc_sl, List.length_nil]
  · have hb1 : (η.new (.live false [])).f b = .live false (boolsA l) := by show (if b = η.nx then _ else _) = _; rw [if_neg (by omega)]; exact hb
    have hrow : rowN (.live false (boolsA l)) 0 (l.length * 1) = some (boolsA l) := by
      rw [Nat.mul_one, rowN_at, if_pos (by omega), List.drop_zero, List.take_of_length_le (by omega)]
    refine ⟨.slice (η.nx + 1) 0 l.length (.un 1), (η.new (.live false [])).new (.live false (boolsA l)), ?_, ⟨η.nx + 1, .un 1, rfl, Nat.le_succ _, Nat.lt_succ_self _, by show (if η.nx + 1 = η.nx + 1 then _ else _) = _; rw [if_pos rfl]⟩, extN (extN (.refl _ _))⟩
    simp -implicitDefEqProofs (disch := omega) only [go_sem, apSrc_sl, hb, hrow, apKn_new]
def boI2 (η0 : HN) (ya yb : AV) (A : Nat) (l m : List Bool) (k : Nat) (φ : FN) (η : HN) : Prop := ∃ i, k = l.length - i ∧ i ≤ l.length ∧ φ 0 = ya ∧ φ 1 = yb ∧ φ 5 = .slice A 0 l.length (.kn l.length) ∧ φ 6 = .int .i64 i ∧ η = η0.put A (.live false (boolsA ((List.zipWith and l m).take i ++ List.replicate (l.length - i) false)))
theorem zip_len {l m : List Bool} (h : l.length = m.length) : (List.zipWith and l m).length = l.length := by rw [List.length_zipWith]; omega
theorem zip_fill {l m : List Bool} (h : l.length = m.length) {i : Nat} (hi : i < l.length) : ((List.zipWith and l m).take i ++ List.replicate (l.length - i) false).set i (l.getD i false && m.getD i false) = (List.zipWith and l m).take (i + 1) ++ List.replicate (l.length - (i + 1)) false := by
  have hl : ((List.zipWith and l m).take i).length = i := by rw [List.length_take, zip_len h]; omega
  rw [List.set_append, if_neg (by omega), hl, Nat.sub_self, show l.length - i = l.length - (i + 1) + 1 by omega, List.replicate_succ, List.set_cons_zero, List.take_succ_eq_append_getElem (by rw [zip_len h]; exact hi), List.append_assoc, List.getElem_zipWith]
  rw [List.getD_eq_getElem?_getD, List.getElem?_eq_getElem hi, List.getD_eq_getElem?_getD, List.getElem?_eq_getElem (by omega)]; rfl
theorem both_nil (U : Usual nat) {η : HN} {b : Nat} {cap : Cp} {l : List Bool} {Q : AV → HN → Prop} (hb : η.f b = .live false (boolsA l)) (hbn : b < η.nx) (hl : l.length ≤ 1099511627776)
    (h : ∀ b cap η', η.nx ≤ b → b < η'.nx → η'.f b = .live false (boolsA l) → ExtB η.nx η η' → Q (.slice b 0 l.length cap) η') : ∃ v η', CallN Try.prog nat 50 [.nilslice, .slice b 0 l.length cap] η v η' ∧ Q v η' := by
  refine call_of (PT := pl50) Try.func50 rfl (U 50 (by decide)) ok50 rfl ?_
  obtain ⟨v, η', e, ⟨c, cap', rfl, c1, c2, c3⟩, E⟩ := app_bools (cap := cap) hb hbn hl
  simp -implicitDefEqProofs (disch := omega) only [go_sem, e]
  exact h _ _ _ c1 c2 c3 E
set_option maxHeartbeats 1000000 in
theorem both_some (U : Usual nat) {η : HN} {b c : Nat} {cap cap2 : Cp} {l m : List Bool} {Q : AV → HN → Prop} (hb : η.f b = .live false (boolsA l)) (hbn : b < η.nx) (hc : η.f c = .live false (boolsA m)) (hcn : c < η.nx) (hlm : l.length = m.length) (hl : l.length ≤ 1099511627776)
    (h : ∀ b cap η', η.nx ≤ b → b < η'.nx → η'.f b = .live false (boolsA (List.zipWith and l m)) → ExtB η.nx η η' → Q (.slice b 0 l.length cap) η') : ∃ v η', CallN Try.prog nat 50 [.slice b 0 l.length cap, .slice c 0 m.length cap2] η v η' ∧ Q v η' := by
  refine call_of (PT := pl50) Try.func50 rfl (U 50 (by decide)) ok50 rfl ?_
  have hcp : ¬1 = 0 ∧ l.length ≤ 140737488355328 := ⟨by decide, by omega⟩
  have hul := boolsA_len l
  have hum := boolsA_len m
  have hrep : List.replicate l.length (AV.bool false) = boolsA (List.replicate l.length false) := by unfold boolsA; rw [List.map_replicate]
  simp -implicitDefEqProofs (disch := omega) only [go_sem, if_pos hcp, hrep]
  have E1 : ExtB η.nx η (η.new (.live false (boolsA (List.replicate l.length false)))) := extN (.refl _ _)
  have x1 : (η.new (.live false (boolsA (List.replicate l.length false)))).f η.nx = .live false (boolsA (List.replicate l.length false)) := by show (if η.nx = η.nx then _ else _) = _; rw [if_pos rfl]
  have n1 : (η.new (.live false (boolsA (List.replicate l.length false)))).nx = η.nx + 1 := rfl
  generalize η.new (.live false (boolsA (List.replicate l.length false))) = η1 at *
  have hb1 := (E1.2 _ hbn).trans hb
  have hc1 := (E1.2 _ hcn).trans hc
  refine wpN_loop (boI2 η1 (.slice b 0 l.length cap) (.slice c 0 m.length cap2) η.nx l m) l.length ⟨0, by omega, by omega, rfl, rfl, rfl, rfl, (put_self (by rw [x1]; rfl)).symm⟩ ?_
  rintro k φ η2 ⟨i, hk, hi, p0, p1, p5, p6, rfl⟩
  by_cases hlt : i < l.length
  · have g1 := boolsA_at hlt
    have g2 := boolsA_at (l := m) (i := i) (by omega)
    have g3 := boolsA_len ((List.zipWith and l m).take i ++ List.replicate (l.length - i) false)
    have g4 : ((List.zipWith and l m).take i ++ List.replicate (l.length - i) false).length = l.length := by rw [List.length_append, List.length_take, List.length_replicate, zip_len hlm]; omega
    have fin : ∀ v : Bool, v = (l.getD i false && m.getD i false) → (boolsA ((List.zipWith and l m).take i ++ List.replicate (l.length - i) false)).set i (.bool v) = boolsA ((List.zipWith and l m).take (i + 1) ++ List.replicate (l.length - (i + 1)) false) := fun v e => by rw [boolsA_set, e, zip_fill hlm hlt]
    cases hx : l.getD i false with
    | true =>
      rw [hx] at g1
      simp -implicitDefEqProofs (disch := omega) only [go_sem, p0, p1, p5, p6, hb1, hc1, g1, g2]
      exact ⟨l.length - (i + 1), by omega, i + 1, rfl, by omega, p0, p1, p5, rfl, by rw [put_put, fin _ (by rw [hx]; rfl)]⟩
    | false =>
      rw [hx] at g1
      simp -implicitDefEqProofs (disch := omega) only [go_sem, p0, p1, p5, p6, hb1, hc1, g1, g2]
      exact ⟨l.length - (i + 1), by omega, i + 1, rfl, by omega, p0, p1, p5, rfl, by rw [put_put, fin _ (by rw [hx]; rfl)]⟩
  obtain rfl : i = l.length := by omega
  simp -implicitDefEqProofs (disch := omega) only [go_sem, p0, p1, p5, p6]
  have hz := zip_len hlm
  have hfull : (List.zipWith and l m).take l.length ++ List.replicate 0 false = List.zipWith and l m := by
    rw [List.replicate_zero, List.append_nil, List.take_of_length_le (by omega)]
  refine h _ _ _ (Nat.le_refl _) (by show η.nx < η1.nx; omega) ?_ (E1.trans (.put (Nat.le_refl _)))
  show (if η.nx = η.nx then _ else _) = _
  rw [if_pos rfl]
  exact congrArg (fun x => BN.live false (boolsA x)) hfull
end Go.Proofs.Ytjljolnhmmbkoaa
