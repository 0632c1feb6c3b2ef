/- What is proved: the document's Text gives the decimal numeral, whatever the int and the world. Conditions: as each theorem says. -/
import Derived.Test.YtjljolnhmmbkoaaDoorProg
import Derived.WalkKit
import Derived.ProofKit
import Derived.RegionTactic
import Derived.Deep.RegionWith
import Derived.Lib.ItoaNum
set_option linter.unusedVariables false
set_option linter.unusedSimpArgs false
set_option linter.unusedSectionVars false
namespace Go.Proofs.YtjljolnhmmbkoaaDoor
open Go.RowKit
set_option maxRecDepth 100000
theorem conv1 (W : World) (b : Nat) (c : UInt8) (z : Int) (h : W.cell? ⟨b, 0, none⟩ = some (.int .u8 z)) (hz : z = (c.toNat : Int)) : (convert 31 9 (.slice (some ⟨b, 0, none⟩) 1 1)).run Tryd.prog W = .ok (.string ⟨#[c]⟩) W :=
  run_convert_bytes_back W 31 9 5 ⟨b, 0, none⟩ 1 [c] Tryd.underlying31 Tryd.underlying5 Tryd.underlying9 fun j hj => by
    obtain rfl : j = 0 := by simpa using hj
    subst hz
    exact h
theorem below_cell {W w' : World} (h : Below W.heap.size W w') (b : Nat) (hb : b < W.heap.size) : w'.cell? ⟨b, 0, none⟩ = W.cell? ⟨b, 0, none⟩ := by
  unfold World.cell?
  dsimp only
  rw [h.block b hb]
theorem below_d {w w' : World} (h : Below w.drew.heap.size w.drew w') : Below w.heap.size w w' := Below.trans (Below.drew (Below.refl _ w)) h
theorem below_ad {w w' : World} {o : Obj} (h : Below (w.alloc o).drew.heap.size (w.alloc o).drew w') : Below w.heap.size w w' :=
  Below.trans (Below.drew (Below.alloc (Below.refl _ w) (Nat.le_refl _) o)) (h.mono (Below.alloc (Below.refl _ w) (Nat.le_refl _) o).size)
set_option maxHeartbeats 4000000 in
theorem text_walk : ∀ (n : Nat), n < 9223372036854775808 → ∀ w, Calls Tryd.prog 45 #[.int .i64 (n : Int)] w fun e w' => e = .returned (.string ⟨(Lib.decDigits n).toArray⟩) ∧ Below w.heap.size w w' := by
  intro n
  induction n using Nat.strongRecOn with
  | _ n ih =>
    intro hn w
    go_enter Tryd.func45, Tryd.ntmps45
    go_wp2_with (fail)
    · have h10 : n < 10 := by omega
      have e := conv1 (w.alloc (Obj.cells #[Value.int IntKind.u8 (48 + ↑n)] 5)) w.heap.size (UInt8.ofNat (48 + n)) (48 + ↑n) (by rw [World.cell?_alloc_at (hn := by simp)]; rfl) (by rw [UInt8.toNat_ofNat']; omega)
      rw [e]
      go_wp2
      go_ret
      refine ⟨?_, ?_⟩
      · rw [Lib.decDigits, dif_pos h10]; simp
      · exact Below.alloc (Below.refl _ _) (by simp) _
    · have hih : ∀ w, Calls Tryd.prog 45 #[.int .i64 ((n : Int) / 10)] w fun e w' => e = .returned (.string ⟨(Lib.decDigits (n / 10)).toArray⟩) ∧ Below w.heap.size w w' := by
        have := ih (n / 10) (by omega) (by omega)
        rwa [Int.natCast_ediv] at this
      have hq : IntKind.i64.wrap ((n : Int) / 10) = (n : Int) / 10 := by simp [IntKind.wrap, IntKind.bits, IntKind.signed]; omega
      have ht : (n : Int).tmod 10 = ((n % 10 : Nat) : Int) := by rw [Int.tmod_eq_emod_of_nonneg (by omega)]; omega
      have hw1 : IntKind.i64.wrap (48 + (n : Int).tmod 10) = 48 + (n : Int).tmod 10 := by rw [ht]; simp [IntKind.wrap, IntKind.bits, IntKind.signed]; omega
      have hw2 : IntKind.u8.wrap (48 + (n : Int).tmod 10) = 48 + (n : Int).tmod 10 := by rw [ht]; simp [IntKind.wrap, IntKind.bits, IntKind.signed]; omega
      have hc : ∀ (W : World) (b : Nat), W.cell? ⟨b, 0, none⟩ = some (.int .u8 (48 + (n : Int).tmod 10)) → (convert 31 9 (.slice (some ⟨b, 0, none⟩) 1 1)).run Tryd.prog W = .ok (.string ⟨#[UInt8.ofNat (48 + n % 10)]⟩) W := fun W b h => conv1 W b _ _ h (by rw [ht, UInt8.toNat_ofNat']; omega)
      have hd : (Lib.decDigits (n / 10)).length ≤ 20 := by
        rw [Lib.decDigits_length]
        by_cases h0 : n / 10 = 0
        · rw [h0, Lib.nDigits_small (by decide)]; decide
        · obtain ⟨e1, e2⟩ := Lib.numDigits_eq (n / 10) (by omega) (by omega)
          split at e1 <;> omega
      have hd2 : ¬ 9223372036854775807 < (Lib.decDigits (n / 10)).length + 1 := by omega
      have hd3 : (Lib.decDigits (n / 10)).length + 1 ≤ 9223372036854775807 := by omega
      have hfin : ({ data := (Lib.decDigits (n / 10)).toArray } : ByteArray) ++ { data := #[48 + UInt8.ofNat (n % 10)] } = { data := (Lib.decDigits n).toArray } := by
        rw [Lib.decDigits.eq_1 n, dif_neg (by omega)]
        apply ByteArray.ext
        rw [ByteArray.data_append]
        simp
      clear ht
      go_region_with (go_at_call 45; refine (hih _).mono ?_; rintro e w' ⟨rfl, hB⟩; have hB' := below_cell hB)
      all_goals (try simp only [Exit.inBlock, Exit.then])
      all_goals go_wp2
      all_goals go_ret
      all_goals refine ⟨?_, ?_⟩
      all_goals (try go_simp)
      all_goals first
        | exact hfin
        | exact Below.alloc (below_d hB) (below_d hB).size _
        | exact below_ad hB
theorem itoa_min : Lib.itoa (-9223372036854775808) = [45, 57, 50, 50, 51, 51, 55, 50, 48, 51, 54, 56, 53, 52, 55, 55, 53, 56, 48, 56] := by
  unfold Lib.itoa
  rw [if_pos (by decide)]
  show 45 :: Lib.decDigits 9223372036854775808 = _
  simp [Lib.decDigits]
set_option maxHeartbeats 4000000 in
theorem text_all (z : Int) (h0 : -9223372036854775808 ≤ z) (h1 : z ≤ 9223372036854775807) (w : World) : Calls Tryd.prog 45 #[.int .i64 z] w fun e w' => e = .returned (.string ⟨(Lib.itoa z).toArray⟩) ∧ Below w.heap.size w w' := by
  by_cases hz : 0 ≤ z
  · have := text_walk z.toNat (by omega) w
    have e : Lib.itoa z = Lib.decDigits z.toNat := by unfold Lib.itoa; rw [if_neg (by omega)]
    rw [e]
    rwa [Int.toNat_of_nonneg hz] at this
  · have hih : -9223372036854775808 < z → ∀ w, Calls Tryd.prog 45 #[.int .i64 (-z)] w fun e w' => e = .returned (.string ⟨(Lib.decDigits z.natAbs).toArray⟩) ∧ Below w.heap.size w w' := fun hm w => by
      have := text_walk z.natAbs (by omega) w
      rwa [show ((z.natAbs : Nat) : Int) = -z by omega] at this
    have hd : (Lib.decDigits z.natAbs).length ≤ 20 := by
      rw [Lib.decDigits_length]
      obtain ⟨e1, e2⟩ := Lib.numDigits_eq z.natAbs (by omega) (by omega)
      split at e1 <;> omega
    have hq : -9223372036854775808 < z → IntKind.i64.wrap (-z) = -z := fun hm => by simp [IntKind.wrap, IntKind.bits, IntKind.signed]; omega
    have e : Lib.itoa z = 45 :: Lib.decDigits z.natAbs := by unfold Lib.itoa; rw [if_pos (by omega)]
    by_cases hm : z = -9223372036854775808
    · subst hm
      rw [itoa_min]
      go_enter Tryd.func45, Tryd.ntmps45
      go_wp2_with (fail)
      go_ret
      exact ⟨rfl, Below.refl _ _⟩
    · have hm : -9223372036854775808 < z := by omega
      have hih := hih hm
      have hq := hq hm
      rw [e]
      go_enter Tryd.func45, Tryd.ntmps45
      go_wp2_with (go_at_call 45; refine (hih _).mono ?_; rintro e w' ⟨rfl, hB⟩)
      go_ret
      refine ⟨?_, hB⟩
      rw [show ({ data := #[45] } : ByteArray) ++ { data := (Lib.decDigits z.natAbs).toArray } = { data := (45 :: Lib.decDigits z.natAbs).toArray } by
        apply ByteArray.ext
        rw [ByteArray.data_append]
        simp]
      rfl
end Go.Proofs.YtjljolnhmmbkoaaDoor
