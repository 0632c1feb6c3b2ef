/- What is proved: how a first way comes to a place. Conditions: none. -/
import Derived.Test.YtjljolnhmmbkoaaValid11
set_option linter.unusedVariables false
set_option linter.unusedSimpArgs false
set_option linter.unusedSectionVars false
namespace Go.Proofs.Ytjljolnhmmbkoaa
open Go.Eng Go.Plain
set_option autoImplicit false
set_option maxRecDepth 100000
variable {nat : ∀ [Deep], Nats}
theorem meet_none (U : Usual nat) (η : HN) (bl off : Nat) (row : List AV) (b1 b2 : Nat) (cap1 cap2 : Cp) (w1 w2 : List Nat) (z1 z2 : AV) (hbl : η.f bl = .live false row) (hbn : bl < η.nx) (hlen : off + 3 ≤ row.length) (hr : row[off]? = some (.bool false))
    (h1 : η.f b1 = .live false (u64s w1)) (hn1 : b1 < η.nx) (h2 : η.f b2 = .live false (u64s w2)) (hn2 : b2 < η.nx) (hl1 : w1.length ≤ 1099511627776) (hl2 : w2.length ≤ 1099511627776) :
    ∃ v η', CallN Try.prog nat 83 [.ptr bl off, .agg [.bool true, .slice b1 0 w1.length cap1, .slice b2 0 w2.length cap2]] η v η' ∧
      ∃ c1 c2 k1 k2 η2, η' = η2.put bl (.live false (setsL row off [.bool true, .slice c1 0 w1.length k1, .slice c2 0 w2.length k2])) ∧ ExtB η.nx η η2 ∧ η.nx ≤ c1 ∧ c1 < c2 ∧ c2 < η2.nx ∧ η2.f c1 = .live false (u64s w1) ∧ η2.f c2 = .live false (u64s w2) := by
  refine call_of (PT := pl83) Try.func83 rfl (U 83 (by decide)) ok83 rfl ?_
  have hlt := (List.getElem?_eq_some_iff.1 hr).1
  simp -implicitDefEqProofs (disch := omega) only [go_sem, hbl, hr, okO]
  have E1 : ExtB η.nx η (η.new (.live false [.bool true, .slice b1 0 w1.length cap1, .slice b2 0 w2.length cap2])) := extN (.refl _ _)
  have hnx : (η.new (.live false [.bool true, .slice b1 0 w1.length cap1, .slice b2 0 w2.length cap2])).nx = η.nx + 1 := rfl
  have ht : (η.new (.live false [.bool true, .slice b1 0 w1.length cap1, .slice b2 0 w2.length cap2])).f η.nx = .live false [.bool true, .slice b1 0 w1.length cap1, .slice b2 0 w2.length cap2] := by show (if η.nx = η.nx then _ else _) = _; rw [if_pos rfl]
  generalize η.new (.live false [.bool true, .slice b1 0 w1.length cap1, .slice b2 0 w2.length cap2]) = η1 at *
  obtain ⟨v1, η2, k2, o2, E2⟩ := clone_spec U η1 b1 cap1 w1 ((E1.2 _ hn1).trans h1) (by omega) hl1
  refine dE_call ⟨_, _, k2, ?_⟩
  have e2 := E2.1
  have ht2 : η2.f η.nx = _ := (E2.2 _ (by omega)).trans ht
  simp -implicitDefEqProofs (disch := omega) only [go_sem, ht2, ht]
  have E12 := extT E1 E2
  obtain ⟨v2, η3, k3, o3, E3⟩ := clone_spec U η2 b2 cap2 w2 ((E12.2 _ hn2).trans h2) (by omega) hl2
  refine dE_call ⟨_, _, k3, ?_⟩
  have ht3 : η3.f η.nx = _ := (E3.2 _ (by omega)).trans ht2
  have E13 := extT E12 E3
  have hb3 : η3.f bl = _ := (E13.2 _ hbn).trans hbl
  have c1 : cellsV v1 = some [v1] := by obtain ⟨b, cap, rfl, _⟩ := o2; rfl
  have c2 : cellsV v2 = some [v2] := by obtain ⟨b, cap, rfl, _⟩ := o3; rfl
  simp -implicitDefEqProofs (disch := omega) only [go_sem, ht3, ht2, ht, c1, c2, hb3, not_le_f, false_implies, and_true, true_and, implies_true]
  obtain ⟨x1, y1, rfl, p1, q1, r1⟩ := o2
  obtain ⟨x2, y2, rfl, p2, q2, r2⟩ := o3
  exact ⟨x1, x2, y1, y2, η3, rfl, E13, by omega, by omega, q2, (E3.2 _ q1).trans r1, r2⟩
end Go.Proofs.Ytjljolnhmmbkoaa
