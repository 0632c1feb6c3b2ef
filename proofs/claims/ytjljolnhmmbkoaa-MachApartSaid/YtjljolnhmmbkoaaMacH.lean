/- What is proved: a machine's digest. Conditions: as each theorem says. -/
import Derived.Test.YtjljolnhmmbkoaaMacG
import Derived.Test.YtjljolnhmmbkoaaDig
set_option linter.unusedVariables false
set_option linter.unusedSimpArgs false
set_option linter.unusedSectionVars false
namespace Go.Proofs.Ytjljolnhmmbkoaa
open Go.Eng Go.Plain
set_option autoImplicit false
set_option maxRecDepth 100000
variable {nat : ∀ [Deep], Nats} {F : List Nat → List Nat → List Nat}
theorem _root_.Go.Eng.OwnK.bk {base c : Nat} {η : HN} {x : AV} {l : List Nat} (h : OwnK base η x l.length c (u8s l)) : Dig.RdBk η [] x l := by
  obtain ⟨b, rest, rfl, h1, h2, h3, h4, h5⟩ := h
  exact .inr ⟨b, 0, _, _, rfl, ⟨rfl, by show l.length ≤ c; omega, false, _, h5, by rw [List.length_append]; omega, by rw [List.drop_zero, List.take_append_of_le_length (by omega), List.take_of_length_le (by omega)]⟩, h2, nofun⟩
theorem stateB_len (t : Nat) (l : List Nat) : (stateB t l).length ≤ 20 + 10 * l.length := by
  unfold stateB
  have h1 := uv_len t
  have h2 := uv_len l.length
  have h3 := nums_len l
  rw [List.length_append, List.length_append]; omega
theorem digest_then (U : Usual nat) (X : Dig.Ctx nat F) {η : HN} {lo hi mp mb ticks : Nat} {z : PV} {p : PD} {ms : List Nat} {Q : AV → HN → Prop} (M : MachAt lo hi η mp mb z p ms ticks) (hm : ms.length ≤ 1000000)
    (h : ∀ η', ExtB η.nx η η' → Q (.agg (u8s (Dig.shaF F (stateB ticks ms)))) η') : ∃ v η', CallN Try.prog nat 36 [.ptr mp 0] η v η' ∧ Q v η' := by
  refine call_of (PT := pl36) Try.func36 rfl (U 36 (by decide)) ok36 rfl ?_
  simp -implicitDefEqProofs (disch := omega) only [go_sem]
  have E1 : ExtB η.nx η (η.new (.live false (List.replicate 32 (.int .u8 0)))) := extN (.refl _ _)
  have x1 : (η.new (.live false (List.replicate 32 (.int .u8 0)))).f η.nx = .live false (List.replicate 32 (.int .u8 0)) := by show (if η.nx = η.nx then _ else _) = _; rw [if_pos rfl]
  have n1 : (η.new (.live false (List.replicate 32 (.int .u8 0)))).nx = η.nx + 1 := rfl
  generalize η.new (.live false (List.replicate 32 (.int .u8 0))) = η1 at *
  refine thenN_call (state_own U (M.keep E1.1 fun b hb _ => E1.2 b hb) hm fun v2 η2 c o2 E2 => ?_)
  have x2 := (E2.2 _ (by omega)).trans x1
  have F2 := extT E1 E2
  simp -implicitDefEqProofs (disch := omega) only [go_sem]
  obtain ⟨v3, η3, k3, rfl, E3⟩ := Dig.of_spec X η2 v2 (stateB ticks ms) o2.bk (by have := stateB_len ticks ms; omega)
  refine thenN_call ⟨_, _, k3, ?_⟩
  have g2 := E2.1
  have x3 := (E3.2 _ (by omega)).trans x2
  have F3 := extT F2 E3
  have hl : (u8s (Dig.shaF F (stateB ticks ms))).length = 32 := by rw [u8s_length]; exact Dig.sumF_len _ _ _
  have hr : (List.replicate 32 (AV.int .u8 0)).length = 32 := List.length_replicate
  simp -implicitDefEqProofs (disch := omega) only [go_sem, x3, hl, hr]
  exact h _ (F3.trans (.put (Nat.le_refl _)))
theorem eqB64 : eqB Try.prog 64 = ⟨q2 fun xs ys => qElems qInt false 1 xs ys 32 0⟩ := by kernel_rfl
theorem eq64_rfl (l : List Nat) (hl : l.length = 32) : (eqB Try.prog 64).f (.agg (u8s l)) (.agg (u8s l)) = some true := by
  have := eq_ints (k := .u8) hl hl
  rw [decide_eq_true rfl] at this
  rw [eqB64]; exact this
theorem good64 (b : Bool) : goodEq Try.prog 64 b = true := by cases b <;> kernel_rfl
end Go.Proofs.Ytjljolnhmmbkoaa
