/- What is proved: what Clone of a set does. Conditions: none. -/
import Derived.Test.YtjljolnhmmbkoaaValid10
set_option linter.unusedVariables false
set_option linter.unusedSimpArgs false
set_option linter.unusedSectionVars false
namespace Go.Proofs.Ytjljolnhmmbkoaa
open Go.Eng Go.Plain
set_option autoImplicit false
set_option maxRecDepth 100000
variable {nat : ∀ [Deep], Nats}
@[go_sem] theorem good_24 : goodEq Try.prog 24 true = true := by kernel_rfl
@[go_sem] theorem eqns_24 {b o n : Nat} {c : Cp} : (eqB Try.prog 24).f (.slice b o n c) .nilslice = some false := by kernel_rfl
@[go_sem] theorem eqnn_24 : (eqB Try.prog 24).f .nilslice .nilslice = some true := by kernel_rfl
@[go_sem] theorem good_29 : goodEq Try.prog 29 true = true := by kernel_rfl
@[go_sem] theorem eqns_29 {b o n : Nat} {c : Cp} : (eqB Try.prog 29).f (.slice b o n c) .nilslice = some false := by kernel_rfl
@[go_sem] theorem eqnn_29 : (eqB Try.prog 29).f .nilslice .nilslice = some true := by kernel_rfl
@[go_sem] theorem good_30 : goodEq Try.prog 30 true = true := by kernel_rfl
@[go_sem] theorem eqns_30 {b o n : Nat} {c : Cp} : (eqB Try.prog 30).f (.slice b o n c) .nilslice = some false := by kernel_rfl
@[go_sem] theorem eqnn_30 : (eqB Try.prog 30).f .nilslice .nilslice = some true := by kernel_rfl
@[go_sem] theorem good_48 : goodEq Try.prog 48 true = true := by kernel_rfl
@[go_sem] theorem eqns_48 {b o n : Nat} {c : Cp} : (eqB Try.prog 48).f (.slice b o n c) .nilslice = some false := by kernel_rfl
@[go_sem] theorem eqnn_48 : (eqB Try.prog 48).f .nilslice .nilslice = some true := by kernel_rfl
@[go_sem] theorem good_52 : goodEq Try.prog 52 true = true := by kernel_rfl
@[go_sem] theorem eqns_52 {b o n : Nat} {c : Cp} : (eqB Try.prog 52).f (.slice b o n c) .nilslice = some false := by kernel_rfl
@[go_sem] theorem eqnn_52 : (eqB Try.prog 52).f .nilslice .nilslice = some true := by kernel_rfl
@[go_sem] theorem good_55 : goodEq Try.prog 55 true = true := by kernel_rfl
@[go_sem] theorem eqns_55 {b o n : Nat} {c : Cp} : (eqB Try.prog 55).f (.slice b o n c) .nilslice = some false := by kernel_rfl
@[go_sem] theorem eqnn_55 : (eqB Try.prog 55).f .nilslice .nilslice = some true := by kernel_rfl
@[go_sem] theorem good_84 : goodEq Try.prog 84 true = true := by kernel_rfl
@[go_sem] theorem eqns_84 {b o n : Nat} {c : Cp} : (eqB Try.prog 84).f (.slice b o n c) .nilslice = some false := by kernel_rfl
@[go_sem] theorem eqnn_84 : (eqB Try.prog 84).f .nilslice .nilslice = some true := by kernel_rfl
@[go_sem] theorem good_93 : goodEq Try.prog 93 true = true := by kernel_rfl
@[go_sem] theorem eqns_93 {b o n : Nat} {c : Cp} : (eqB Try.prog 93).f (.slice b o n c) .nilslice = some false := by kernel_rfl
@[go_sem] theorem eqnn_93 : (eqB Try.prog 93).f .nilslice .nilslice = some true := by kernel_rfl
@[go_sem] theorem good_94 : goodEq Try.prog 94 true = true := by kernel_rfl
@[go_sem] theorem eqns_94 {b o n : Nat} {c : Cp} : (eqB Try.prog 94).f (.slice b o n c) .nilslice = some false := by kernel_rfl
@[go_sem] theorem eqnn_94 : (eqB Try.prog 94).f .nilslice .nilslice = some true := by kernel_rfl
def u64s (l : List Nat) : List AV := l.map (.int .u64)
theorem u64s_len (l : List Nat) : (u64s l).length = l.length := List.length_map _
/-- a set that has a block of its own -/
def OwnS (base : Nat) (η : HN) (v : AV) (ws : List Nat) : Prop := ∃ b cap, v = .slice b 0 ws.length cap ∧ base ≤ b ∧ b < η.nx ∧ η.f b = .live false (u64s ws)
theorem OwnS.ext {base c : Nat} {η η' : HN} {v : AV} {ws : List Nat} (h : OwnS base η v ws) (he : ExtB c η η') (hc : η.nx ≤ c) : OwnS base η' v ws := by
  obtain ⟨b, cap, h1, h2, h3, h4⟩ := h
  exact ⟨b, cap, h1, h2, by have := he.1; omega, by rw [he.2 b (by omega)]; exact h4⟩
theorem OwnS.mono {base c : Nat} {η : HN} {v : AV} {ws : List Nat} (h : OwnS base η v ws) (hc : c ≤ base) : OwnS c η v ws := by
  obtain ⟨b, cap, h1, h2, h3⟩ := h
  exact ⟨b, cap, h1, by omega, h3⟩
theorem clone_spec (U : Usual nat) (η : HN) (b : Nat) (cap : Cp) (ws : List Nat) (hb : η.f b = .live false (u64s ws)) (hbn : b < η.nx) (hl : ws.length ≤ 1099511627776) :
    ∃ v η', CallN Try.prog nat 102 [.slice b 0 ws.length cap] η v η' ∧ OwnS η.nx η' v ws ∧ ExtB η.nx η η' := by
  refine call_of (PT := pl102) Try.func102 rfl (U 102 (by decide)) ok102 rfl ?_
  have hul := u64s_len ws
  by_cases h0 : ws.length = 0
  · obtain rfl : ws = [] := List.eq_nil_of_length_eq_zero h0
    simp -implicitDefEqProofs (disch := omega) only [go_sem, apSrc_sl, List.length_nil]
    exact ⟨⟨η.nx, .kn 0, rfl, Nat.le_refl _, Nat.lt_succ_self _, by show (if η.nx = η.nx then _ else _) = _; rw [if_pos rfl]; rfl⟩, extN (.refl _ _)⟩
  · have hb1 : (η.new (.live false [])).f b = .live false (u64s ws) := by show (if b = η.nx then _ else _) = _; rw [if_neg (by omega)]; exact hb
    have hrow : rowN (.live false (u64s ws)) 0 (ws.length * 1) = some (u64s ws) := by
      rw [Nat.mul_one, rowN_at, if_pos (by omega), List.drop_zero, List.take_of_length_le (by omega)]
    simp -implicitDefEqProofs (disch := omega) only [go_sem, apSrc_sl, hb, hrow, apKn_new]
    refine ⟨⟨η.nx + 1, .un 1, rfl, Nat.le_succ _, Nat.lt_succ_self _, ?_⟩, extN (extN (.refl _ _))⟩
    show (if η.nx + 1 = η.nx + 1 then _ else _) = _
    rw [if_pos rfl]
end Go.Proofs.Ytjljolnhmmbkoaa
