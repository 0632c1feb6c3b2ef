/- What is proved: what the functions of a digest do. Conditions: the mixing of one block is told. -/
import Derived.Test.YtfcakkiakodokaaFacts
import Derived.Test.YtfcakkiakodokaaSha1
set_option linter.unusedVariables false
set_option linter.unusedSimpArgs false
set_option linter.unusedSectionVars false
namespace Go.Proofs.Ytfcakkiakodokaa
open Go.Eng
set_option autoImplicit false
set_option maxRecDepth 100000
variable {nat : ∀ [Deep], Nats} {F : List Nat → List Nat → List Nat}
structure Ctx (nat : ∀ [Deep], Nats) (F : List Nat → List Nat → List Nat) : Prop where
  len : ∀ h l, (F h l).length = 8
  mix : ∀ (η : HN) (h : List Nat) (b off : Nat) (cap : Cp) (l : List Nat), h.length = 8 → RdS η b off 64 cap l → CallN Try.prog nat 22 [.agg (u32s h), .slice b off 64 cap] η (.agg (u32s (F h l))) η
  none : ∀ [Deep] (f : FuncId), f = 19 ∨ f = 14 ∨ f = 15 ∨ f = 13 ∨ f = 10 → nat f = none
def BlkI (F : List Nat → List Nat → List Nat) (η : HN) (b : Nat) (h0 l0 : List Nat) (m : Nat) (φ : FN) (η' : HN) : Prop :=
  ∃ c l off cap z, φ 1 = .slice b off m cap ∧ φ 2 = .ptr η.nx 0 ∧ φ 4 = .ptr (η.nx + 1) 0 ∧ η'.f η.nx = .live false (u32s c) ∧ c.length = 8 ∧ η'.f (η.nx + 1) = .live false z ∧ z.length = 8 ∧
    RdS η' b off m cap l ∧ m ≤ 1099511627776 ∧ blkF F c l = blkF F h0 l0 ∧ restF l = restF l0 ∧ ExtB η.nx η η' ∧ η.nx + 1 < η'.nx
theorem blocks_spec (X : Ctx nat F) (h : List Nat) (h8 : h.length = 8) (b off n : Nat) (cap : Cp) (l : List Nat) (η : HN) (hbn : b < η.nx) (hr : RdS η b off n cap l) (hmax : n ≤ 1099511627776) :
   ∃ v η', CallN Try.prog nat 19 [.agg (u32s h), .slice b off n cap] η v η' ∧
     (∃ off' n' cap', v = .tup [.agg (u32s (blkF F h l)), .slice b off' n' cap'] ∧ RdS η' b off' n' cap' (restF l)) ∧ ExtB η.nx η η' := by
  refine call_of (PT := pl19) Try.func19 rfl (X.none 19 (.inl rfl)) ok19 rfl ?_
  simp -implicitDefEqProofs (disch := omega) only [go_sem]
  refine wpN_loop (BlkI F η b h l) n ⟨h, l, off, cap, List.replicate 8 (.int .u32 0), ?_⟩ ?_
  · have hx : ExtB η.nx η ((η.new (.live false (u32s h))).new (.live false [.int .u32 0, .int .u32 0, .int .u32 0, .int .u32 0, .int .u32 0, .int .u32 0, .int .u32 0, .int .u32 0])) :=
      ExtB.trans (.new (Nat.le_refl _)) (.new (Nat.le_succ _))
    refine ⟨rfl, rfl, rfl, ?_, h8, ?_, by simp, hr.ext hx hbn, hmax, rfl, rfl, hx, Nat.lt_succ_self _⟩
    · show (if η.nx = η.nx + 1 then _ else if η.nx = η.nx then _ else _) = _; rw [if_neg (by omega), if_pos rfl]
    · show (if η.nx + 1 = η.nx + 1 then _ else _) = _; rw [if_pos rfl]; rfl
  rintro m φ η' ⟨c, l', off', cap', z, h1, h2, h4, hp, c8, hq, z8, hr', hmm, e1, e2, hx, hnx⟩
  obtain ⟨hl, hc', ro, row, hb', hle, hrow⟩ := hr'
  have hu8 := u32s_length c
  by_cases hm : 64 ≤ m
  · rw [blkF, if_pos (by omega)] at e1
    rw [restF, if_pos (by omega)] at e2
    have hM8 := X.len c (l'.take 64)
    have hM8' := u32s_length (F c (l'.take 64))
    have h64 : ∀ cap2, CapIs 64 1 cap2 → RdS η' b off' 64 cap2 (l'.take 64) := fun cap2 h => by
      refine ⟨by simp; omega, h, ro, row, hb', by omega, ?_⟩
      rw [← u8s_take, ← hrow, List.take_take]; congr 1; omega
    have fin : ∀ (φ' : FN) (cap2 : Cp) (off2 : Nat), (off2 = off' + 64 ∨ m = 64) → off2 + (m - 64) ≤ row.length → CapIs (m - 64) 1 cap2 → φ' 1 = .slice b off2 (m - 64) cap2 → φ' 2 = .ptr η.nx 0 → φ' 4 = .ptr (η.nx + 1) 0 →
        ∃ m', m' < m ∧ BlkI F η b h l m' φ' (η'.put η.nx (.live false (u32s (F c (l'.take 64))))) := by
      intro φ' cap2 off2 ho hle2 hcap p1 p2 p4
      have hx2 : ExtB η.nx η (η'.put η.nx (.live false (u32s (F c (l'.take 64))))) := hx.trans (.put (Nat.le_refl _))
      refine ⟨m - 64, by omega, _, l'.drop 64, off2, cap2, z, p1, p2, p4, ?_, hM8, ?_, z8, ⟨by simp; omega, hcap, ro, row, ?_, hle2, ?_⟩, by omega, e1, e2, hx2, hnx⟩
      · show (if η.nx = η.nx then _ else _) = _; rw [if_pos rfl]
      · show (if η.nx + 1 = η.nx then _ else η'.f (η.nx + 1)) = _; rw [if_neg (by omega)]; exact hq
      · show (if b = η.nx then _ else η'.f b) = _; rw [if_neg (by omega)]; exact hb'
      · rw [← u8s_drop, ← hrow, List.drop_take, List.drop_drop]
        rcases ho with rfl | rfl
        · rfl
        · simp
    cases cap' with
    | kn c' =>
      have hc' : m ≤ c' := hc'
      simp -implicitDefEqProofs (disch := omega) only [go_sem, h1, h2, h4, hp, hb', c8, z8]
      refine dE_call ⟨_, _, X.mix η' c b off' _ _ c8 (h64 (.kn c') (show 64 ≤ c' by omega)), ?_⟩
      simp -implicitDefEqProofs (disch := omega) only [go_sem, h1, h2, h4, hp, hb', c8, z8, hM8]
      by_cases h64 : c' = 64
      · simp -implicitDefEqProofs (disch := omega) only [go_sem, h64, h2, h4]
        have h0 : m = 64 := by omega
        exact fin _ (.kn 0) off' (.inr h0) (by omega) (show m - 64 ≤ 0 by omega) (by simp [go_sem, h0]) (by simp [go_sem, h2]) (by simp [go_sem, h4])
      · simp -implicitDefEqProofs (disch := omega) only [go_sem, h2, h4]
        exact fin _ (.kn (c' - 64)) (off' + 64) (.inl rfl) (by omega) (show m - 64 ≤ c' - 64 by omega) (by simp [go_sem]) (by simp [go_sem, h2]) (by simp [go_sem, h4])
    | un es =>
      have hc' : es = 1 := hc'
      simp -implicitDefEqProofs (disch := omega) only [go_sem, h1, h2, h4, hp, hb', c8, z8]
      refine dE_call ⟨_, _, X.mix η' c b off' _ _ c8 (h64 (.un 1) rfl), ?_⟩
      simp -implicitDefEqProofs (disch := omega) only [go_sem, h1, h2, h4, hp, hb', c8, z8, hM8]
      exact fin _ (.un 1) (off' + 64) (.inl rfl) (by omega) rfl (by simp [go_sem]) (by simp [go_sem, h2]) (by simp [go_sem, h4])
  · rw [blkF, if_neg (by omega)] at e1
    rw [restF, if_neg (by omega)] at e2
    simp -implicitDefEqProofs (disch := omega) only [go_sem, h1, h2, h4, hp, hb', c8, z8, hq]
    have hx2 : ExtB η.nx η (η'.put (η.nx + 1) (.live false (u32s c))) := hx.trans (.put (Nat.le_succ _))
    refine ⟨⟨off', m, cap', by rw [e1], ⟨by rw [← e2]; exact hl, hc', ro, row, ?_, hle, by rw [← e2]; exact hrow⟩⟩, hx2⟩
    show (if b = η.nx + 1 then _ else _) = _; rw [if_neg (by omega)]; exact hb'
end Go.Proofs.Ytfcakkiakodokaa
