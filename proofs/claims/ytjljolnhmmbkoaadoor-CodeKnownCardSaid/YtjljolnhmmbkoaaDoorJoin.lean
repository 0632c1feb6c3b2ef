/- What is proved: strings.Join at the pieces that CodeKnown joins, and a start of the engine in which the table of powers of ten is read. Conditions: none. -/
import Derived.Test.YtjljolnhmmbkoaaDoorRows
import Derived.Test.YtjljolnhmmbkoaaDoorEngG
import Derived.Test.YtjljolnhmmbkoaaDoorLaid
import Derived.Lib.LaidTab
import Derived.Lib.ItoaNum
import Derived.LaidSub
import Derived.MakeChecks
namespace Go.Proofs.YtjljolnhmmbkoaaDoor.codeKnown
open Go.Eng
set_option linter.unusedVariables false
theorem good : progOk Tryd.prog = true := by kernel_rfl
theorem few : Tryd.prog.globals.size ≤ mostBlocks := of_decide_eq_true (by kernel_rfl)
noncomputable def av (l : List UInt8) : AV := .str (llen l) (codesL l)
theorem av_inj {ρ : Ren} {l : List UInt8} {u : Value} (h : VR ρ (av l) u) : u = .string ⟨l.toArray⟩ := by
  obtain ⟨a, rfl, h1, h2⟩ := VR_str.1 h
  rw [llen_eq] at h1
  have := codesL_inj h1 h2
  obtain ⟨d⟩ := a
  obtain ⟨d⟩ := d
  cases this
  rfl
theorem av_vr (ρ : Ren) (l : List UInt8) : VR ρ (av l) (.string ⟨l.toArray⟩) := VR_str.2 ⟨_, rfl, by rw [llen_eq], rfl⟩
/-- the pieces' cells -/
noncomputable def isRow (ws : List (List UInt8)) (off : Nat) (x : Blk) : Bool :=
  Blk.rec (motive := fun _ => Bool) false (fun _ sz cs => and2 (Nat.ble (Nat.add off (llen ws)) sz) (cgets cs (llen ws) off fun l' => avEq (.agg l') (.agg (lmap av ws)))) (fun _ => false) x
/-- join by the table: the pieces, the separator, the answer -/
noncomputable def joinTab (t : List (List (List UInt8) × List UInt8 × List UInt8)) (h : H) (b off len : Nat) (s : AV) : RV :=
  List.rec (motive := fun _ => RV) (.fail 95) (fun e _ ih => ifB (and2 (Nat.beq len (llen e.1)) (and2 (avEq s (av e.2.1)) (isRow e.1 off (hget h b)))) (mkS (llen e.2.2) (codesL e.2.2) h) ih) t
noncomputable def joinNat (t : List (List (List UInt8) × List UInt8 × List UInt8)) (args : List AV) (h : H) : RV :=
  match args with
  | [.slice b off len _, s] => joinTab t h b off len s
  | _ => .fail 96
theorem joinTab_val {h h' : H} {b off len : Nat} {s v : AV} : ∀ {t}, joinTab t h b off len s = .val v h' → ∃ e ∈ t, len = e.1.length ∧ s = av e.2.1 ∧ isRow e.1 off (hget h b) = true ∧ v = av e.2.2 ∧ h' = h := by
  intro t
  induction t with
  | nil => intro e; exact (fail_val (show RV.fail 95 = .val v h' from e)).elim
  | cons a t ih =>
    intro e
    have e : ifB (and2 (Nat.beq len (llen a.1)) (and2 (avEq s (av a.2.1)) (isRow a.1 off (hget h b)))) (mkS (llen a.2.2) (codesL a.2.2) h) (joinTab t h b off len s) = .val v h' := e
    cases hq : and2 (Nat.beq len (llen a.1)) (and2 (avEq s (av a.2.1)) (isRow a.1 off (hget h b))) with
    | true =>
      rw [hq, ifB_true, mkS_eq] at e
      cases e
      obtain ⟨h1, h2⟩ := and2_true hq
      obtain ⟨h2, h3⟩ := and2_true h2
      exact ⟨a, by simp, by rw [← llen_eq]; exact beq_true.1 h1, avEq_sound _ _ h2, h3, rfl, rfl⟩
    | false =>
      rw [hq, ifB_false] at e
      obtain ⟨x, q1, q2⟩ := ih e
      exact ⟨x, List.mem_cons_of_mem _ q1, q2⟩
theorem row_cells {ρ : Ren} {h : H} {w : World} (hr : HR ρ h w) {ws : List (List UInt8)} {b off B o N : Nat} (hb : ρ b = some (B, o, N)) (e : isRow ws off (hget h b) = true) :
    ∀ j x, ws[j]? = some x → w.cell? ⟨B, o + off + j, none⟩ = some (.string ⟨x.toArray⟩) := by
  intro j x hj
  have hbk := hr.blk b B o N hb
  cases hx : hget h b with
  | dead => rw [hx] at e; cases e
  | mp _ => rw [hx] at e; cases e
  | live ro sz cs =>
    rw [hx] at e hbk
    obtain ⟨h1, h2⟩ := and2_true (show and2 (Nat.ble (Nat.add off (llen ws)) sz) (cgets cs (llen ws) off fun l' => avEq (.agg l') (.agg (lmap av ws))) = true from e)
    rw [cgets_eq] at h2
    have h2 := AV.agg.inj (avEq_sound _ _ h2)
    rw [llen_eq] at h1 h2
    have h1 : off + ws.length ≤ sz := Nat.le_of_ble_eq_true h1
    obtain ⟨c, e', fz, q1, q2, q3, q4, q5⟩ := hbk
    have hl : j < ws.length := (List.getElem?_eq_some_iff.1 hj).1
    obtain ⟨u, k1, k2, k3⟩ := q5 (off + j) (by omega)
    have hm : cget cs (off + j) = av x := by
      have := congrArg (fun l => l[j]?) h2
      rw [lmap_eq] at this
      simp only [List.getElem?_map, List.getElem?_range hl, hj, Option.map_some, Option.some.injEq] at this
      exact this
    rw [hm] at k2
    rw [cell_at q1, show o + off + j = o + (off + j) by omega, k1, av_inj k2]
/-- the table's answers are the joined pieces -/
def joinsOk (t : List (List (List UInt8) × List UInt8 × List UInt8)) : Prop := ∀ e ∈ t, e.2.2 = Lib.join e.1 e.2.1 ∧ 0 < e.1.length ∧ e.1.length ≤ 9 ∧ e.2.2.length ≤ 99
theorem joinNat_ok {t} (ht : joinsOk t) : NatOK Tryd.prog 40 (joinNat t) := by
  intro args h v h' e ρ w us hr _ _ hv
  unfold joinNat at e
  split at e
  · rename_i b off len cap s
    obtain ⟨a, ha, rfl, rfl, hrow, rfl, rfl⟩ := joinTab_val e
    obtain ⟨hj, h0, h9, h99⟩ := ht a ha
    obtain ⟨ws, sep, res⟩ := a
    obtain rfl : res = Lib.join ws sep := hj
    have h0 : 0 < ws.length := h0
    have h9 : ws.length ≤ 9 := h9
    have h99 : (Lib.join ws sep).length ≤ 99 := h99
    unfold VL at hv
    obtain ⟨u, r, rfl, hu, hv⟩ := hv
    unfold VL at hv
    obtain ⟨u2, r2, rfl, hu2, hv⟩ := hv
    unfold VL at hv
    subst hv
    unfold VR at hu
    obtain ⟨B, o, N, c, ad, hb, rfl, hlc, had, hcap⟩ := hu
    have hlc : ws.length ≤ c := hlc
    obtain rfl : ad = ⟨B, o + off, none⟩ := had.resolve_right (by omega)
    rw [av_inj hu2]
    have hcells := row_cells hr hb hrow
    have hB : B < w.heap.size := by
      obtain ⟨x, hx⟩ : ∃ x, ws[0]? = some x := ⟨_, List.getElem?_eq_getElem h0⟩
      have := hcells 0 x hx
      unfold World.cell? at this
      by_cases hlt : B < w.heap.size
      · exact hlt
      · rw [Array.getElem?_eq_none (show w.heap.size ≤ B by omega)] at this; cases this
    have hmap : ((ws.map fun x => (⟨x.toArray⟩ : ByteArray)).map (·.data.toList)) = ws := by simp [Function.comp_def]
    have key := Tryd.strings_Join B (o + off) c (ws.map fun x => (⟨x.toArray⟩ : ByteArray)) ⟨sep.toArray⟩ w (fun j x hx => by
        rw [List.getElem?_map] at hx
        obtain ⟨y, hy, rfl⟩ := Option.map_eq_some_iff.1 hx
        exact hcells j y hy) hB (by simp; omega) (by simpa using hlc) (by rw [hmap]; simp; omega)
    rw [hmap, List.length_map] at key
    refine ⟨callFunc_run Tryd.func40 rfl (by kernel_rfl), key.mono fun e' w' q => ?_⟩
    obtain ⟨q1, q2⟩ := q
    exact ⟨_, ρ, q1, av_vr ρ _, Kept.st hr (⟨q2.size, q2.block, q2.tape, q2.os, q2.output⟩ : Kept w w')⟩
  · exact (fail_val (show RV.fail 96 = .val v h' from e)).elim
/-! ### a start with the table's first cell -/
noncomputable def row1 : T AV := csets [.int .u64 1] .e 0 id
noncomputable def h1 (P : Program) : H := ⟨P.globals.size, trSet 6 0 (trNew Blk .dead 6) (.live true 1 row1)⟩
theorem hget_h1 (P : Program) (b : Nat) (hb : b < mostBlocks) : hget (h1 P) b = if b = 0 then Blk.live true 1 row1 else Blk.dead := by
  show trGet 6 b (trSet 6 0 (trNew Blk .dead 6) (.live true 1 row1)) = _
  rw [trGet_set 6 0 b _ _ (by decide) hb]
  split
  · rfl
  · exact trGet_new 6 b Blk.dead
def ren1 (P : Program) (N : Nat) : Ren := fun b => if b = 0 then some (0, 0, N) else ren0 P b
theorem ren1_lt {P : Program} {N b : Nat} {x : Nat × Nat × Nat} (hp : 0 < P.globals.size) (e : ren1 P N b = some x) : b < P.globals.size := by
  unfold ren1 at e
  split at e
  · omega
  · unfold ren0 at e
    split at e
    · assumption
    · cases e
theorem start1 {P : Program} (hp : 0 < P.globals.size) (hsz : P.globals.size ≤ mostBlocks) {w : World} (hw : w.cell? ⟨0, 0, none⟩ = some (.int .u64 1)) :
    ∃ ρ, HR ρ (h1 P) w ∧ GR P ρ ∧ Fresh ρ (h1 P) := by
  unfold World.cell? at hw
  cases hx : w.heap[(0 : Nat)]? with
  | none => rw [show w.heap[(⟨0, 0, none⟩ : Addr).block]? = none from hx] at hw; cases hw
  | some ob =>
    rw [show w.heap[(⟨0, 0, none⟩ : Addr).block]? = some ob from hx] at hw
    cases ob with
    | cells c t fz =>
      have hw : c[0]? = some (Value.int .u64 1) := hw
      have hc : 0 < c.size := by
        by_cases q : 0 < c.size
        · exact q
        · rw [Array.getElem?_eq_none (by omega)] at hw; cases hw
      refine ⟨ren1 P c.size, ⟨fun b B o N e => ?_, fun b b' B o N o' N' e e' l l' => ?_, fun b x e => Nat.lt_of_lt_of_le (ren1_lt hp e) hsz⟩, fun g hg => ?_, ⟨fun b hb => ?_, fun b hb hb' => ?_⟩⟩
      · rw [hget_h1 P b (Nat.lt_of_lt_of_le (ren1_lt hp e) hsz)]
        by_cases q : b = 0
        · rw [if_pos q]
          unfold ren1 at e
          rw [if_pos q] at e
          cases e
          refine ⟨c, t, fz, hx, rfl, by omega, fun h => (by cases h), fun i hi => ?_⟩
          obtain rfl : i = 0 := by omega
          exact ⟨_, hw, by
            show VR _ (.int .u64 1) _
            unfold VR
            exact ⟨by decide, rfl⟩, rfl⟩
        · rw [if_neg q]; trivial
      · rw [hget_h1 P b (Nat.lt_of_lt_of_le (ren1_lt hp e) hsz)] at l
        rw [hget_h1 P b' (Nat.lt_of_lt_of_le (ren1_lt hp e') hsz)] at l'
        split at l
        · split at l'
          · omega
          · exact l'.elim
        · exact l.elim
      · by_cases q : g = 0
        · exact ⟨c.size, by unfold ren1; rw [if_pos q, q]⟩
        · exact ⟨0, by unfold ren1 ren0; rw [if_neg q, if_pos hg]⟩
      · have hb : P.globals.size ≤ b := hb
        unfold ren1 ren0
        rw [if_neg (by omega), if_neg (by omega)]
      · have hb : P.globals.size ≤ b := hb
        rw [hget_h1 P b hb', if_neg (by omega)]
    | _ => cases hw
theorem run1 {P : Program} (hok : progOk P = true) (hp : 0 < P.globals.size) (hsz : P.globals.size ≤ mostBlocks) {nat : Nats} (hnat : NatsOK P nat) {n : Nat} {f : FuncId}
    (e : okRes ((callN P nat n).f f [] (h1 P)) = true) {w : World} (hw : w.cell? ⟨0, 0, none⟩ = some (.int .u64 1)) : Calls P f #[] w fun e w' => e = .returned (.bool true) ∧ Kept w w' := by
  have hm : P.follows .mixedOrders = true := hok
  obtain ⟨ρ, k1, k2, k3⟩ := start1 hp hsz hw
  cases hr : (callN P nat n).f f [] (h1 P) with
  | fail y => rw [hr] at e; cases e
  | val v h' =>
    rw [hr] at e
    obtain ⟨b, hb, hb'⟩ := asBool_eq.1 (show Eng.asBool v (fun b => b) false = true from e)
    subst hb
    have hb' : b = true := hb'
    subst hb'
    refine (callN_ok (draws_ok hm) hnat n f [] (h1 P) _ h' hr ρ w [] k1 k2 k3 VL.nil).2.mono fun e' w' hh => ?_
    obtain ⟨u, ρ', he, hu, st⟩ := hh
    rw [VR_bool.1 hu] at he
    refine ⟨he, st.size, fun B hB => st.keep B hB fun b o N q hl => ?_, st.still⟩
    have hlt := k1.dom b _ q
    rw [hget_h1 P b hlt] at hl
    split at hl
    · exact hl.elim
    · exact hl.elim
/-! ### the row's table -/
def laidHere : List (String × DataW Unit) := [("math/bits.deBruijn32tab", Rows.laid_math_bits_deBruijn32tab), ("math/bits.deBruijn64tab", Rows.laid_math_bits_deBruijn64tab), ("internal/strconv.uint64pow10", Rows.laid_internal_strconv_uint64pow10)]
theorem laid_eq : (laidHere.filter fun x => x.1 == "internal/strconv.uint64pow10") = [("internal/strconv.uint64pow10", Lib.tabData .u64 Lib.pow10Tab)] := by kernel_rfl
theorem table {W : World} (h : laidMetH Tryd.prog laidHere W) : W.cell? ⟨0, 0, none⟩ = some (.int .u64 1) := by
  have q := h.filter fun x => x.1 == "internal/strconv.uint64pow10"
  rw [laid_eq, Go.MakeChecks.laidMetH_plain _ _ _ (by kernel_rfl)] at q
  have hT : Lib.TabIs Tryd.prog W "internal/strconv.uint64pow10" .u64 Lib.pow10Tab :=
    Lib.tabIs_of_head (g := 0) (t := 107) (e := 41) (n := 20) (by kernel_rfl) (by kernel_rfl) Tryd.underlying107 Tryd.underlying41 (by kernel_rfl) (by kernel_rfl) q
  exact hT.cell (g := 0) (by kernel_rfl) 0 (by decide)
end Go.Proofs.YtjljolnhmmbkoaaDoor.codeKnown
