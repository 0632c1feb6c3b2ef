/- What is proved: CodeBytes' helpers met by their contracts; the table that it reads. Conditions: as each theorem says. -/
import Derived.Test.YtjljolnhmmbkoaaDoorCodG
import Derived.Test.YtjljolnhmmbkoaaDoorCodK
import Derived.Test.YtjljolnhmmbkoaaDoorWN
import Derived.Test.YtjljolnhmmbkoaaDoorRows
import Derived.MakeChecks
import Derived.Lib.LaidTab
import Derived.LaidSub
set_option linter.unusedVariables false
set_option linter.unusedSimpArgs false
set_option linter.unusedSectionVars false
namespace Go.Proofs.YtjljolnhmmbkoaaDoor
open Go.Eng Go.Plain Go.ChangeShapes Go.WideShapes
set_option autoImplicit false
set_option maxRecDepth 100000
noncomputable def natB [Deep] : Nats := natsOf [(8, trueNat), (40, joinNat2), (45, fnNat F45), (64, fnNat F64), (70, fnNat F70), (71, fnNat F71), (72, fnNat F72)]
theorem natB_ok [Deep] : @NatsOK _ noEnv Tryd.prog natB := @natsOf_cons _ noEnv _ _ _ _ awake8 (@natsOf_cons _ noEnv _ _ _ _ (@nat40_ok _ noEnv) (@natsOf_cons _ noEnv _ _ _ _ (@nat45_ok _ noEnv) (@natsOf_cons _ noEnv _ _ _ _ (@nat64_ok _ noEnv) (@natsOf_cons _ noEnv _ _ _ _ (@nat70_ok _ noEnv) (@natsOf_cons _ noEnv _ _ _ _ (@nat71_ok _ noEnv) (@natsOf_cons _ noEnv _ _ _ _ (@nat72_ok _ noEnv) (@natsOf_nil _ noEnv _)))))))
theorem usualB : Usual natB := fun f hf => by
  intro _
  have n : ∀ g, g ∈ [8, 39, 40, 45, 64, 68, 69, 70, 71, 72] → Nat.beq g f = false := fun g hg => beq_false.2 fun e => hf (by rw [← e]; exact hg)
  show ifB (Nat.beq 8 f) _ (ifB (Nat.beq 40 f) _ (ifB (Nat.beq 45 f) _ (ifB (Nat.beq 64 f) _ (ifB (Nat.beq 70 f) _ (ifB (Nat.beq 71 f) _ (ifB (Nat.beq 72 f) _ none)))))) = none
  rw [n 8 (by decide), n 40 (by decide), n 45 (by decide), n 64 (by decide), n 70 (by decide), n 71 (by decide), n 72 (by decide)]; rfl
theorem showB : ShowCtx natB := ⟨rfl, rfl, rfl, rfl, rfl, rfl⟩
theorem glob0 : 0 < Tryd.prog.globals.size := Nat.le_of_ble_eq_true (by kernel_rfl)
theorem startG_tab {bs : List (List AV)} : (startG Tryd.prog tabR bs).f 0 = .live true tabR := by unfold startG; dsimp only; rw [if_pos rfl]
theorem IsP.sub {η η' : HN} {z : PV} {p : PD} (h : IsP η z p) (e : Sub η η') : IsP η' z p :=
  ⟨RdR.sub h.ins e, RdR.sub h.outs e, RdR.sub h.slots e, RdR.sub h.mems e, RdR.sub h.consts e, RdR.sub h.code e⟩
def laidT : List (String × DataW Unit) := [("math/bits.deBruijn32tab", Rows.laid_math_bits_deBruijn32tab), ("math/bits.deBruijn64tab", Rows.laid_math_bits_deBruijn64tab), ("internal/strconv.uint64pow10", Rows.laid_internal_strconv_uint64pow10)]
theorem laidT_eq : (laidT.filter fun x => x.1 == "internal/strconv.uint64pow10") = [("internal/strconv.uint64pow10", Lib.tabData .u64 Lib.pow10Tab)] := by kernel_rfl
theorem tab_row {W : World} (h : laidMetH Tryd.prog laidT W) : ∃ N, ∀ ρ, @BR noEnv ρ (roBlk tabR) 0 0 N W := by
  have q := h.filter fun x => x.1 == "internal/strconv.uint64pow10"
  rw [laidT_eq, Go.MakeChecks.laidMetH_plain _ _ _ (by kernel_rfl)] at q
  have hT : Lib.TabIs Tryd.prog W "internal/strconv.uint64pow10" .u64 Lib.pow10Tab :=
    Lib.tabIs_of_head (g := 0) (t := 107) (e := 41) (n := 20) (by kernel_rfl) (by kernel_rfl) Tryd.underlying107 Tryd.underlying41 (by kernel_rfl) (by kernel_rfl) q
  have hc : ∀ i, i < 20 → W.cell? ⟨0, i, none⟩ = some (.int .u64 ((10 ^ i : Nat) : Int)) := fun i hi => by
    rw [← Lib.pow10Tab_at i hi]
    exact hT.cell (g := 0) (by kernel_rfl) i (by rw [Lib.pow10Tab_length]; exact hi)
  unfold World.cell? at hc
  cases hx : W.heap[(0 : Nat)]? with
  | none => have := hc 0 (by decide); rw [show W.heap[(⟨0, 0, none⟩ : Addr).block]? = none from hx] at this; cases this
  | some ob =>
    cases ob with
    | cells c t fz =>
      have hc : ∀ i, i < 20 → c[i]? = some (Value.int .u64 ((10 ^ i : Nat) : Int)) := fun i hi => by
        have := hc i hi
        rw [show W.heap[(⟨0, i, none⟩ : Addr).block]? = some (.cells c t fz) from hx] at this
        exact this
      have hs : 20 ≤ c.size := by
        by_cases q : 20 ≤ c.size
        · exact q
        · have := hc 19 (by decide)
          rw [Array.getElem?_eq_none (by omega)] at this; cases this
      refine ⟨c.size, fun ρ => ⟨c, t, fz, hx, rfl, by show 0 + tabR.length ≤ c.size; rw [show tabR.length = 20 from by unfold tabR; simp]; omega, fun h => (by cases h), fun i hi => ?_⟩⟩
      have hi : i < 20 := by
        have hi : i < tabR.length := hi
        rw [show tabR.length = 20 from by unfold tabR; simp] at hi; exact hi
      refine ⟨_, by rw [Nat.zero_add]; exact hc i hi, ?_, rfl⟩
      have e : cget (csetsD tabR .e 0) i = .int .u64 (10 ^ i) := by
        rw [cget_csets, if_pos ⟨Nat.zero_le _, by rw [show tabR.length = 20 from by unfold tabR; simp]; omega⟩, Nat.sub_zero, List.getD_eq_getElem?_getD, tabR_at hi]; rfl
      rw [e]
      have hp : 10 ^ i < 18446744073709551616 := Nat.lt_of_le_of_lt (Nat.pow_le_pow_right (by decide) (show i ≤ 19 by omega)) (by decide)
      letI : Deep := ⟨0, 0⟩
      letI : Env := noEnv
      refine VR_int.2 ⟨hp, ?_⟩
      unfold sgn nneg
      rw [ble_true.2 (show Nat.succ (10 ^ i) ≤ halfN .u64 from hp)]; rfl
    | _ => have := hc 0 (by decide); rw [show W.heap[(⟨0, 0, none⟩ : Addr).block]? = _ from hx] at this; cases this
end Go.Proofs.YtjljolnhmmbkoaaDoor
