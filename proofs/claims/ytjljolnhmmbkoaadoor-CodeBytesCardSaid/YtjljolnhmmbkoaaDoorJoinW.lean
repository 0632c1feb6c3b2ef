/- What is proved: strings.Join at told pieces. Conditions: as each theorem says. -/
import Derived.Test.YtjljolnhmmbkoaaDoorLaid
import Derived.Test.YtjljolnhmmbkoaaDoorCodA
import Derived.Test.YtjljolnhmmbkoaaDoorWL
set_option linter.unusedVariables false
set_option linter.unusedSimpArgs false
set_option linter.unusedSectionVars false
namespace Go.Proofs.YtjljolnhmmbkoaaDoor
open Go.Eng
set_option autoImplicit false
set_option linter.unusedSectionVars false
variable [Deep] [Env]
noncomputable def av (l : List UInt8) : AV := .str (llen l) (codesL l)
theorem av_inj {ρ : Ren} {l : List UInt8} {u : Value} (h : VR ρ (av l) u) : u = .string ⟨l.toArray⟩ := by
  obtain ⟨a, rfl, h1, h2⟩ := VR_str.1 h
  rw [llen_eq] at h1
  have := codesL_inj h1 h2
  obtain ⟨d⟩ := a
  obtain ⟨d⟩ := d
  cases this
  rfl
theorem av_vr (ρ : Ren) (l : List UInt8) : VR ρ (av l) (.string ⟨l.toArray⟩) := VR_str.2 ⟨_, rfl, by rw [llen_eq], rfl⟩
/-- the pieces' cells -/
noncomputable def isRow (ws : List (List UInt8)) (off : Nat) (x : Blk) : Bool :=
  Blk.rec (motive := fun _ => Bool) false (fun _ sz cs => and2 (Nat.ble (Nat.add off (llen ws)) sz) (cgets cs (llen ws) off fun l' => avEq (.agg l') (.agg (lmap av ws)))) (fun _ => false) x
/-- join by the table: the pieces, the separator, the answer -/
noncomputable def joinTab (t : List (List (List UInt8) × List UInt8 × List UInt8)) (h : H) (b off len : Nat) (s : AV) : RV :=
  List.rec (motive := fun _ => RV) (.fail 95) (fun e _ ih => ifB (and2 (Nat.beq len (llen e.1)) (and2 (avEq s (av e.2.1)) (isRow e.1 off (hget h b)))) (mkS (llen e.2.2) (codesL e.2.2) h) ih) t
noncomputable def joinNat (t : List (List (List UInt8) × List UInt8 × List UInt8)) (args : List AV) (h : H) : RV :=
  match args with
  | [.slice b off len _, s] => joinTab t h b off len s
  | _ => .fail 96
theorem joinTab_val {h h' : H} {b off len : Nat} {s v : AV} : ∀ {t}, joinTab t h b off len s = .val v h' → ∃ e ∈ t, len = e.1.length ∧ s = av e.2.1 ∧ isRow e.1 off (hget h b) = true ∧ v = av e.2.2 ∧ h' = h := by
  intro t
  induction t with
  | nil => intro e; exact (fail_val (show RV.fail 95 = .val v h' from e)).elim
  | cons a t ih =>
    intro e
    have e : ifB (and2 (Nat.beq len (llen a.1)) (and2 (avEq s (av a.2.1)) (isRow a.1 off (hget h b)))) (mkS (llen a.2.2) (codesL a.2.2) h) (joinTab t h b off len s) = .val v h' := e
    cases hq : and2 (Nat.beq len (llen a.1)) (and2 (avEq s (av a.2.1)) (isRow a.1 off (hget h b))) with
    | true =>
      rw [hq, ifB_true, mkS_eq] at e
      cases e
      obtain ⟨h1, h2⟩ := and2_true hq
      obtain ⟨h2, h3⟩ := and2_true h2
      exact ⟨a, by simp, by rw [← llen_eq]; exact beq_true.1 h1, avEq_sound _ _ h2, h3, rfl, rfl⟩
    | false =>
      rw [hq, ifB_false] at e
      obtain ⟨x, q1, q2⟩ := ih e
      exact ⟨x, List.mem_cons_of_mem _ q1, q2⟩
theorem row_cells {ρ : Ren} {h : H} {w : World} (hr : HR ρ h w) {ws : List (List UInt8)} {b off B o N : Nat} (hb : ρ b = some (B, o, N)) (e : isRow ws off (hget h b) = true) :
    ∀ j x, ws[j]? = some x → w.cell? ⟨B, o + off + j, none⟩ = some (.string ⟨x.toArray⟩) := by
  intro j x hj
  have hbk := hr.blk b B o N hb
  cases hx : hget h b with
  | dead => rw [hx] at e; cases e
  | mp _ => rw [hx] at e; cases e
  | live ro sz cs =>
    rw [hx] at e hbk
    obtain ⟨h1, h2⟩ := and2_true (show and2 (Nat.ble (Nat.add off (llen ws)) sz) (cgets cs (llen ws) off fun l' => avEq (.agg l') (.agg (lmap av ws))) = true from e)
    rw [cgets_eq] at h2
    have h2 := AV.agg.inj (avEq_sound _ _ h2)
    rw [llen_eq] at h1 h2
    have h1 : off + ws.length ≤ sz := Nat.le_of_ble_eq_true h1
    obtain ⟨c, e', fz, q1, q2, q3, q4, q5⟩ := hbk
    have hl : j < ws.length := (List.getElem?_eq_some_iff.1 hj).1
    obtain ⟨u, k1, k2, k3⟩ := q5 (off + j) (by omega)
    have hm : cget cs (off + j) = av x := by
      have := congrArg (fun l => l[j]?) h2
      rw [lmap_eq] at this
      simp only [List.getElem?_map, List.getElem?_range hl, hj, Option.map_some, Option.some.injEq] at this
      exact this
    rw [hm] at k2
    rw [cell_at q1, show o + off + j = o + (off + j) by omega, k1, av_inj k2]
/-- the table's answers are the joined pieces -/
def joinsOk (t : List (List (List UInt8) × List UInt8 × List UInt8)) : Prop := ∀ e ∈ t, e.2.2 = Lib.join e.1 e.2.1 ∧ 0 < e.1.length ∧ e.1.length ≤ 9 ∧ e.2.2.length ≤ 99
theorem joinNat_ok {t} (ht : joinsOk t) : NatOK Tryd.prog 40 (joinNat t) := by
  intro args h v h' e ρ w us hr _ _ hv
  unfold joinNat at e
  split at e
  · rename_i b off len cap s
    obtain ⟨a, ha, rfl, rfl, hrow, rfl, rfl⟩ := joinTab_val e
    obtain ⟨hj, h0, h9, h99⟩ := ht a ha
    obtain ⟨ws, sep, res⟩ := a
    obtain rfl : res = Lib.join ws sep := hj
    have h0 : 0 < ws.length := h0
    have h9 : ws.length ≤ 9 := h9
    have h99 : (Lib.join ws sep).length ≤ 99 := h99
    unfold VL at hv
    obtain ⟨u, r, rfl, hu, hv⟩ := hv
    unfold VL at hv
    obtain ⟨u2, r2, rfl, hu2, hv⟩ := hv
    unfold VL at hv
    subst hv
    unfold VR at hu
    obtain ⟨B, o, N, c, ad, hb, rfl, hlc, had, hcap⟩ := hu
    have hlc : ws.length ≤ c := hlc
    obtain rfl : ad = ⟨B, o + off, none⟩ := had.resolve_right (by omega)
    rw [av_inj hu2]
    have hcells := row_cells hr hb hrow
    have hB : B < w.heap.size := by
      obtain ⟨x, hx⟩ : ∃ x, ws[0]? = some x := ⟨_, List.getElem?_eq_getElem h0⟩
      have := hcells 0 x hx
      unfold World.cell? at this
      by_cases hlt : B < w.heap.size
      · exact hlt
      · rw [Array.getElem?_eq_none (show w.heap.size ≤ B by omega)] at this; cases this
    have hmap : ((ws.map fun x => (⟨x.toArray⟩ : ByteArray)).map (·.data.toList)) = ws := by simp [Function.comp_def]
    have key := Tryd.strings_Join B (o + off) c (ws.map fun x => (⟨x.toArray⟩ : ByteArray)) ⟨sep.toArray⟩ w (fun j x hx => by
        rw [List.getElem?_map] at hx
        obtain ⟨y, hy, rfl⟩ := Option.map_eq_some_iff.1 hx
        exact hcells j y hy) hB (by simp; omega) (by simpa using hlc) (by rw [hmap]; simp; omega)
    rw [hmap, List.length_map] at key
    refine ⟨callFunc_run Tryd.func40 rfl (by kernel_rfl), key.mono fun e' w' q => ?_⟩
    obtain ⟨q1, q2⟩ := q
    exact ⟨_, ρ, q1, av_vr ρ _, Kept.st hr (⟨q2.size, q2.block, q2.tape, q2.os, q2.output⟩ : Kept w w')⟩
  · exact (fail_val (show RV.fail 96 = .val v h' from e)).elim
end Go.Proofs.YtjljolnhmmbkoaaDoor
