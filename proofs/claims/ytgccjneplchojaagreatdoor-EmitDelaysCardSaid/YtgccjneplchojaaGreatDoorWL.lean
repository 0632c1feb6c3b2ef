/- What is proved: a call that was worked out at one depth of the heap is known at every depth. Conditions: none. -/
import Derived.Test.YtgccjneplchojaaGreatDoorWK
set_option linter.unusedVariables false
set_option linter.unusedSimpArgs false
set_option linter.unusedSectionVars false
namespace Go.Eng
set_option autoImplicit false
set_option linter.unusedSectionVars false
variable [D : Deep] [Env]
section
variable {P : Program}
/-- a value without names -/
noncomputable def plainB (a : AV) : Bool := AV.rec (motive_1 := fun _ => Bool) (motive_2 := fun _ => Unit) (fun _ => true) (fun _ _ => true) (fun _ _ => true) false (fun _ _ => false) false (fun _ _ _ _ => false) (fun _ _ _ _ _ => false) false (fun _ _ _ => false) false (fun _ _ => false) (fun _ _ => false) (fun _ => false) false (fun _ _ _ => false) (fun _ _ => false) () (fun _ _ _ _ => ()) a
theorem VR.plain {ρ ρ' : Ren} {a : AV} {u : Value} (h : plainB a = true) (e : VR ρ a u) : VR ρ' a u := by
  cases a <;> first | exact e | exact nomatch (show false = true from h)
theorem VL.plain {ρ ρ' : Ren} : ∀ {l : List AV} {us : List Value}, lall plainB l = true → VL ρ l us → VL ρ' l us
  | [], _, _, e => e
  | a :: l, us, h, e => by
    obtain ⟨h1, h2⟩ := and2_true (show and2 (plainB a) (lall plainB l) = true from h)
    unfold VL at e ⊢
    obtain ⟨u, r, e1, e2, e3⟩ := e
    exact ⟨u, r, e1, VR.plain h1 e2, VL.plain h2 e3⟩
/-- what a known call gives, with no heap of ours in sight: its new blocks by their numbers -/
def Gives (w : World) (bs : List (List AV)) (v : AV) (e' : Ending) (w' : World) : Prop := ∃ (u : Value) (π : Ren), e' = .returned u ∧ VR π (mvA (fun i => i) v) u ∧ Kept w w' ∧ (∀ i x, π i = some x → i < bs.length) ∧
  (∀ i B o N, π i = some (B, o, N) → w.heap.size ≤ B ∧ BR π (blkOf (mvL (fun i => i) (bs.getD i []))) B o N w') ∧ ∀ i j B o N o' N', π i = some (B, o, N) → π j = some (B, o', N') → i = j
theorem gives_of (hok : progOk P = true) (hsz : P.globals.size ≤ mostBlocks) {nat : Nats} (hnat : NatsOK P nat) {n : Nat} {f : FuncId} (hb : hasBody P f = true) {a : Known}
    (ha : knownIs ((callN P nat n).f f a.args (h0 P)) a = true) (hp : lall plainB a.args = true) {ρ : Ren} {w : World} {us : List Value} (hv : VL ρ a.args us) :
    (callFunc f ⟨us⟩).run P w = .ok (.enter f ⟨us⟩) w ∧ Calls P f ⟨us⟩ w (Gives w a.bs a.v) := by
  obtain ⟨h1, h2⟩ := and2_true ha
  obtain ⟨h2, h3⟩ := and2_true h2
  cases hrun : (callN P nat n).f f a.args (h0 P) with
  | fail y => rw [hrun] at h3; cases h3
  | val v1 hh =>
    rw [hrun] at h3
    obtain ⟨h4, h5⟩ := and2_true (show and2 _ _ = true from h3)
    obtain ⟨h5, h6⟩ := and2_true h5
    have h4 := avEq_sound _ _ h4
    have h5 := beq_true.1 h5
    rw [llen_eq, llen_eq] at h5
    have hfn : (callFunc f ⟨us⟩).run P w = .ok (.enter f ⟨us⟩) w := by
      unfold hasBody at hb
      cases hf : P.funcs[f]? with
      | none => rw [hf] at hb; cases hb
      | some fn =>
        rw [hf] at hb
        obtain ⟨q1, q2⟩ := Bool.and_eq_true_iff.1 (show (!fn.body.isNone && !(fn.name == "runtime.NumGoroutine")) = true from hb)
        exact callFunc_run hf (by simpa using q1) (by simpa using q2)
    refine ⟨hfn, ?_⟩
    obtain ⟨k1, k2, k3⟩ := start_ok hsz w
    have hm : P.follows .mixedOrders = true := hok
    refine (callN_ok (draws_ok hm) hnat n f a.args (h0 P) v1 hh hrun (ren0 P) w us k1 k2 k3 (hv.plain hp)).2.mono fun e' w' q => ?_
    obtain ⟨u, ρ', he, hu, st⟩ := q
    have kept : Kept w w' := ⟨st.size, fun B hB => st.keep B hB fun b o N _ hw => by rw [hget_h0] at hw; exact hw, st.still⟩
    -- the new names
    have hlen : ∀ i, i < a.bs.length → ∃ b, a.τ[i]? = some b ∧ blockIs (hget hh b) (mvL (tauOf a.τ) (a.bs.getD i [])) = true := fun i hi => by
      obtain ⟨b, q1, q2⟩ := blocksAre_get h6 i (a.bs[i]) (by simp [hi])
      exact ⟨b, q1, by rw [List.getD_eq_getElem?_getD, List.getElem?_eq_getElem hi]; exact q2⟩
    have tau : ∀ i b, a.τ[i]? = some b → tauOf a.τ i = b := fun i b hq => by unfold tauOf; rw [lgetD_eq, List.getD_eq_getElem?_getD, hq]; rfl
    let π : Ren := fun i => if i < a.bs.length then ρ' (tauOf a.τ i) else none
    have inn : ∀ i, i < a.bs.length → π i = ρ' (tauOf a.τ i) := fun i hi => if_pos hi
    have dom : ∀ i x, π i = some x → i < a.bs.length := fun i x hx => by
      by_cases hi : i < a.bs.length
      · exact hi
      · rw [show π i = none from if_neg hi] at hx; cases hx
    have H : ∀ i x, ρ' (tauOf a.τ i) = some x → π ((fun i => i) i) = some x := fun i x hx => by
      by_cases hi : i < a.bs.length
      · show π i = _; rw [inn i hi]; exact hx
      · have : tauOf a.τ i = mostBlocks := by
          unfold tauOf
          rw [lgetD_eq, List.getD_eq_getElem?_getD, List.getElem?_eq_none (by omega)]; rfl
        rw [this] at hx
        exact absurd (st.hr.dom _ x hx) (Nat.lt_irrefl mostBlocks)
    refine ⟨u, π, he, ?_, kept, dom, fun b B o N hx => ?_, fun i j B o N o' N' hx hx' => ?_⟩
    · rw [h4] at hu
      exact VR.mv H _ u hu
    · have hq := dom b _ hx
      rw [inn b hq] at hx
      obtain ⟨c, q1, q2⟩ := hlen b hq
      rw [tau _ _ q1] at hx
      obtain ⟨cs, q3, q4⟩ := blockIs_eq q2
      have hw : wl (hget hh c) := by rw [q3]; trivial
      refine ⟨?_, ?_⟩
      · rcases st.rng c B o N hx hw with q | ⟨b0, o0, N0, _, q⟩
        · exact q
        · rw [hget_h0] at q; exact q.elim
      · have hb := st.hr.blk c B o N hx
        rw [q3] at hb
        obtain ⟨cc, ty, fz, r1, r2, r3, r4, r5⟩ := hb
        have ll := mvL_length (tauOf a.τ) (a.bs.getD b [])
        have ll2 := mvL_length (fun i => i) (a.bs.getD b [])
        refine ⟨cc, ty, fz, r1, r2, by rw [ll2, ← ll]; exact r3, r4, fun i hi => ?_⟩
        obtain ⟨u, s1, s2, s3⟩ := r5 i (by omega)
        refine ⟨u, s1, ?_, s3⟩
        rw [q4 i (by omega)] at s2
        rw [cget_csets, if_pos (by omega), Nat.sub_zero]
        rw [mvL_get _ _ (by omega)] at s2
        rw [mvL_get _ _ (by omega)]
        exact VR.mv H _ u s2
    · have hi := dom i _ hx
      have hj := dom j _ hx'
      rw [inn i hi] at hx
      rw [inn j hj] at hx'
      obtain ⟨c, q1, q2⟩ := hlen i hi
      obtain ⟨c', q1', q2'⟩ := hlen j hj
      rw [tau _ _ q1] at hx
      rw [tau _ _ q1'] at hx'
      obtain ⟨_, w1, _⟩ := blockIs_eq q2
      obtain ⟨_, w2, _⟩ := blockIs_eq q2'
      have : c = c' := st.hr.inj c c' B o N o' N' hx hx' (by rw [w1]; trivial) (by rw [w2]; trivial)
      subst this
      exact apartN_inj h2 _ _ _ q1 q1'
/-- laid in new blocks, at any depth -/
theorem natOK_of_gives {f : FuncId} {t : List Known} (ht : ∀ e ∈ t, ∀ (ρ : Ren) (w : World) (us : List Value), VL ρ e.args us → (callFunc f ⟨us⟩).run P w = .ok (.enter f ⟨us⟩) w ∧ Calls P f ⟨us⟩ w (Gives w e.bs e.v)) : NatOK P f (knownNat t) := by
  intro args h v h' e ρ w us hr hg hn hv
  have key : ∀ t : List Known, knownNat t args h = .val v h' → ∃ e ∈ t, args = e.args ∧ knownOne e h = .val v h' := by
    intro t
    induction t with
    | nil => intro e; exact (fail_val (show RV.fail 92 = .val v h' from e)).elim
    | cons a t ih =>
      intro e
      have e : ifB (avEq (.agg args) (.agg a.args)) (knownOne a h) (knownNat t args h) = .val v h' := e
      cases hq : avEq (.agg args) (.agg a.args) with
      | true => rw [hq] at e; exact ⟨a, by simp, AV.agg.inj (avEq_sound _ _ hq), e⟩
      | false =>
        rw [hq] at e
        obtain ⟨a', h1, h2⟩ := ih e
        exact ⟨a', List.mem_cons_of_mem _ h1, h2⟩
  obtain ⟨a, ha, rfl, e0⟩ := key t e
  clear key e
  obtain ⟨hfn, hc⟩ := ht a ha ρ w us hv
  refine ⟨hfn, hc.mono fun e' w' q => ?_⟩
  obtain ⟨u, π, he, hu, kept, dom, blk, inj⟩ := q
  have e : forceN h.nx (fun nx => layAll (fun i => Nat.add i nx) a.bs h fun h' => mkV (mvA (fun i => Nat.add i nx) a.v) h') = .val v h' := e0
  rw [forceN_eq] at e
  obtain ⟨g, g1, g2, g3, g4⟩ := layAll_val _ _ _ _ _ e
  rw [mkV_eq] at g1
  cases g1
  let ρ2 : Ren := fun b => if h.nx ≤ b ∧ b < h.nx + a.bs.length then π (b - h.nx) else ρ b
  have new : ∀ i, i < a.bs.length → ρ2 (Nat.add i h.nx) = π i := fun i hi => by
    show (if h.nx ≤ i + h.nx ∧ i + h.nx < h.nx + a.bs.length then π (i + h.nx - h.nx) else ρ (i + h.nx)) = _
    rw [if_pos (by omega), Nat.add_sub_cancel]
  have H : ∀ i x, π ((fun i => i) i) = some x → ρ2 (Nat.add i h.nx) = some x := fun i x hx => by
    rw [new i (dom i x hx)]; exact hx
  have old : ∀ b, ¬ (h.nx ≤ b ∧ b < h.nx + a.bs.length) → ρ2 b = ρ b := fun b hq => if_neg hq
  have inn : ∀ b, (h.nx ≤ b ∧ b < h.nx + a.bs.length) → ρ2 b = π (b - h.nx) := fun b hq => if_pos hq
  have top : ∀ b, (h.nx ≤ b ∧ b < h.nx + a.bs.length) → b < mostBlocks := fun b hq => by
    have := g3 (fun e => by rw [e] at hq; simp at hq; omega)
    omega
  have fresh : ∀ b B o N, (h.nx ≤ b ∧ b < h.nx + a.bs.length) → ρ2 b = some (B, o, N) → w.heap.size ≤ B ∧ BR ρ2 (hget h' b) B o N w' ∧ wl (hget h' b) := by
    intro b B o N hq hx
    rw [inn b hq] at hx
    rw [g4 b (top b hq), if_pos hq]
    obtain ⟨q1, cc, ty, fz, r1, r2, r3, r4, r5⟩ := blk _ _ _ _ hx
    have ll := mvL_length (fun i => i) (a.bs.getD (b - h.nx) [])
    have ll2 := mvL_length (fun i => Nat.add i h.nx) (a.bs.getD (b - h.nx) [])
    refine ⟨q1, ⟨cc, ty, fz, r1, r2, by rw [ll2, ← ll]; exact r3, r4, fun i hi => ?_⟩, trivial⟩
    obtain ⟨u, s1, s2, s3⟩ := r5 i (by omega)
    refine ⟨u, s1, ?_, s3⟩
    rw [cget_csets, if_pos (by omega), Nat.sub_zero] at s2 ⊢
    rw [mvL_get _ _ (by omega)] at s2
    rw [mvL_get _ _ (by omega)]
    exact VR.mv H _ u s2
  have oldB : ∀ b B o N, ¬ (h.nx ≤ b ∧ b < h.nx + a.bs.length) → ρ b = some (B, o, N) → hget h' b = hget h b := fun b B o N hq hx => by
    rw [g4 b (hr.dom b _ hx), if_neg hq]
  have le : ρ.le ρ2 := fun b x hx => by
    rw [old b (fun hq => by rw [hn.none b hq.1] at hx; cases hx)]
    exact hx
  refine ⟨u, ρ2, he, ?_, ⟨⟨le, ⟨fun b B o N hx => ?_, fun b b' B o N o' N' hx hx' l l' => ?_, fun b x hx => ?_⟩, fun b B o N hx hw => ?_, fun b B o N hx hl hw => ?_, kept.1, fun B hB _ => kept.2.1 B hB, kept.2.2⟩, fun b x hx => ?_, by rw [g2]; omega, fun hc b hb hm => ?_, fun b hb hm hd => ?_, fun b hb hm _ => ?_⟩⟩
  · exact VR.mv H _ u hu
  · by_cases hq : h.nx ≤ b ∧ b < h.nx + a.bs.length
    · exact (fresh b B o N hq hx).2.1
    · rw [old b hq] at hx
      rw [oldB b B o N hq hx]
      have hb := hr.blk b B o N hx
      by_cases hl : lv (hget h b)
      · exact hb.mono le (kept.2.1 B (hb.lt hl))
      · rw [lv_dead hl]; trivial
  · by_cases hq : h.nx ≤ b ∧ b < h.nx + a.bs.length <;> by_cases hq' : h.nx ≤ b' ∧ b' < h.nx + a.bs.length
    · rw [inn b hq] at hx
      rw [inn b' hq'] at hx'
      have := inj _ _ B o N o' N' hx hx'
      omega
    · have f1 := (fresh b B o N hq hx).1
      rw [old b' hq'] at hx'
      rw [oldB b' _ _ _ hq' hx'] at l'
      have := (hr.blk b' _ _ _ hx').lt l'
      omega
    · have f1 := (fresh b' B o' N' hq' hx').1
      rw [old b hq] at hx
      rw [oldB b _ _ _ hq hx] at l
      have := (hr.blk b _ _ _ hx).lt l.lv
      omega
    · rw [old b hq] at hx
      rw [old b' hq'] at hx'
      rw [oldB b _ _ _ hq hx] at l
      rw [oldB b' _ _ _ hq' hx'] at l'
      exact hr.inj b b' B o N o' N' hx hx' l l'
  · by_cases hq : h.nx ≤ b ∧ b < h.nx + a.bs.length
    · exact top b hq
    · rw [old b hq] at hx; exact hr.dom b x hx
  · by_cases hq : h.nx ≤ b ∧ b < h.nx + a.bs.length
    · exact .inl (fresh b B o N hq hx).1
    · rw [old b hq] at hx
      rw [oldB b _ _ _ hq hx] at hw
      exact .inr ⟨b, o, N, hx, hw⟩
  · by_cases hq : h.nx ≤ b ∧ b < h.nx + a.bs.length
    · exact absurd (fresh b B o N hq hx).2.2 hw
    · rw [old b hq] at hx
      rw [oldB b _ _ _ hq hx] at hw hl
      exact ⟨hx, hl, hw⟩
  · by_cases hq : h.nx ≤ b ∧ b < h.nx + a.bs.length
    · exact .inr ⟨hq.1, by rw [g2]; exact hq.2⟩
    · rw [old b hq] at hx; exact .inl hx
  · rw [g2] at hb
    rw [g4 b hm, if_neg (by omega)]
    exact hc b (by omega) hm
  · rw [g4 b hm, if_neg (by omega)]; exact hd
  · rw [g4 b hm, if_neg (by omega)]
/-- worked out at one depth, known at all -/
theorem known_ok2 (D0 : Deep) (hok : progOk P = true) (hsz : P.globals.size ≤ @mostBlocks D0) {nat : @Nats D0} (hnat : @NatsOK D0 _ P nat) {n : Nat} {f : FuncId} (hb : hasBody P f = true) {t : List Known}
    (ht : @KnownAll D0 P nat n f t) (hp : ∀ e ∈ t, lall plainB e.args = true) : NatOK P f (knownNat t) :=
  natOK_of_gives fun e he _ _ _ hv => @gives_of D0 _ P hok hsz nat hnat n f hb e (ht e he) (hp e he) _ _ _ hv
end
end Go.Eng
