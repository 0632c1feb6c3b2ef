/- What is proved: several slices that grow side by side; bytes as texts. Conditions: none. -/
import Derived.Test.YtjljolnhmmbkoaaWM
set_option linter.unusedVariables false
set_option linter.unusedSimpArgs false
set_option linter.unusedSectionVars false
namespace Go.Eng
set_option autoImplicit false
structure Grow (T : Nat → Nat) (lo : Nat) (η : HN) (t s : Nat) (x : AV) (n : Nat) (l : List AV) : Prop where
 own : OwnA s lo η x n l
 tag : ∀ b, blkIs x b → T b = t
section
variable {P : Program} {C : Spec} {d : Option Nat} {φ : FN}
end
def bV : List Nat → Nat
 | [] => 0
 | a :: l => a + 256 * bV l
theorem bytesN_bV : ∀ l : List Nat, bytesN (u8s l) = some (bV l)
 | [] => rfl
 | a :: l => by
  show (match bytesN (u8s l) with | some m => some (a + 256 * m) | none => none) = _
  rw [bytesN_bV l]; rfl
theorem str_of {P : Program} {η : HN} {y : AV} {l : List Nat} {e s w : Nat} (h : RdA 1 η y l.length (u8s l)) (hl : l ≠ []) (hP : isU8D (tdOf P e) = true) : cvN' P (.slice e s w) .str y η = .ok (.str l.length (bV l)) η := by
 rcases h with ⟨h0, _⟩ | ⟨b, off, cap, ro, row, rfl, h1, h2, h3, h4, h5⟩
 ·exact absurd (List.eq_nil_of_length_eq_zero h0) hl
 ·rw [cvN_b2s, if_pos hP, h1, rowN_at, if_pos (by omega), strR_s]
  rw [Nat.mul_one] at h5
  rw [h5, bytesN_bV]; rfl
end Go.Eng
