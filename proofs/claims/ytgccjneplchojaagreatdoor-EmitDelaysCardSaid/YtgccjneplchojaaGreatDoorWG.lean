/- What is proved: a call whose arguments hold no addresses, once worked out, may be taken as known. Conditions: none. -/
import Derived.Test.YtgccjneplchojaaGreatDoorWF
set_option linter.unusedVariables false
set_option linter.unusedSimpArgs false
set_option linter.unusedSectionVars false
namespace Go.Eng
set_option autoImplicit false
variable [Deep] [Env]

/-! ## Names, moved -/
noncomputable def mvA (σ : Nat → Nat) (x : AV) : AV := AV.rec (motive_1 := fun _ => AV) (motive_2 := fun _ => List AV) (fun b => .bool b) (fun k n => .int k n) (fun n v => .str n v) .nilptr (fun b o => .ptr (σ b) o) .nilslice (fun b o l c => .slice (σ b) o l c)
  (fun f _ _ a b => .func f a b) .nilFunc (fun t _ v => .iface t v) .nilIface (fun _ l => .agg l) (fun _ l => .tup l) (fun b => .map (σ b)) .nilmap (fun k a b => .rng k a b) (fun k n => .sym k n) [] (fun _ _ a r => a :: r) x
noncomputable def mvL (σ : Nat → Nat) (l : List AV) : List AV := List.rec (motive := fun _ => List AV) [] (fun a _ ih => mvA σ a :: ih) l
theorem mvA_agg (σ : Nat → Nat) : ∀ l : List AV, mvA σ (.agg l) = .agg (mvL σ l)
  | [] => rfl
  | a :: l => by
    have ih := mvA_agg σ l
    have e : mvA σ (.agg (a :: l)) = .agg (mvA σ a :: AV.rec_1 (motive_1 := fun _ => AV) (motive_2 := fun _ => List AV) (fun b => .bool b) (fun k n => .int k n) (fun n v => .str n v) .nilptr (fun b o => .ptr (σ b) o) .nilslice (fun b o l c => .slice (σ b) o l c)
      (fun f _ _ a b => .func f a b) .nilFunc (fun t _ v => .iface t v) .nilIface (fun _ l => .agg l) (fun _ l => .tup l) (fun b => .map (σ b)) .nilmap (fun k a b => .rng k a b) (fun k n => .sym k n) [] (fun _ _ a r => a :: r) l) := rfl
    have e2 : mvA σ (.agg l) = .agg (AV.rec_1 (motive_1 := fun _ => AV) (motive_2 := fun _ => List AV) (fun b => .bool b) (fun k n => .int k n) (fun n v => .str n v) .nilptr (fun b o => .ptr (σ b) o) .nilslice (fun b o l c => .slice (σ b) o l c)
      (fun f _ _ a b => .func f a b) .nilFunc (fun t _ v => .iface t v) .nilIface (fun _ l => .agg l) (fun _ l => .tup l) (fun b => .map (σ b)) .nilmap (fun k a b => .rng k a b) (fun k n => .sym k n) [] (fun _ _ a r => a :: r) l) := rfl
    rw [e2] at ih
    rw [e, AV.agg.inj ih]
    rfl
theorem mvA_tup (σ : Nat → Nat) (l : List AV) : mvA σ (.tup l) = .tup (mvL σ l) := by
  have h : ∀ l' : List AV, AV.agg l' = mvA σ (.agg l) → mvA σ (.tup l) = .tup l' := by
    intro l' e
    have e2 : mvA σ (.agg l) = .agg (AV.rec_1 (motive_1 := fun _ => AV) (motive_2 := fun _ => List AV) (fun b => .bool b) (fun k n => .int k n) (fun n v => .str n v) .nilptr (fun b o => .ptr (σ b) o) .nilslice (fun b o l c => .slice (σ b) o l c)
      (fun f _ _ a b => .func f a b) .nilFunc (fun t _ v => .iface t v) .nilIface (fun _ l => .agg l) (fun _ l => .tup l) (fun b => .map (σ b)) .nilmap (fun k a b => .rng k a b) (fun k n => .sym k n) [] (fun _ _ a r => a :: r) l) := rfl
    rw [e2] at e
    rw [AV.agg.inj e]
    rfl
  exact h _ (mvA_agg σ l).symm
theorem mvA_func (σ : Nat → Nat) (f : FuncId) (a b : List AV) : mvA σ (.func f a b) = .func f (mvL σ a) (mvL σ b) := by
  have g : ∀ l : List AV, AV.rec_1 (motive_1 := fun _ => AV) (motive_2 := fun _ => List AV) (fun b => .bool b) (fun k n => .int k n) (fun n v => .str n v) .nilptr (fun b o => .ptr (σ b) o) .nilslice (fun b o l c => .slice (σ b) o l c)
      (fun f _ _ a b => .func f a b) .nilFunc (fun t _ v => .iface t v) .nilIface (fun _ l => .agg l) (fun _ l => .tup l) (fun b => .map (σ b)) .nilmap (fun k a b => .rng k a b) (fun k n => .sym k n) [] (fun _ _ a r => a :: r) l = mvL σ l := fun l => AV.agg.inj (mvA_agg σ l)
  have e : mvA σ (.func f a b) = .func f (AV.rec_1 (motive_1 := fun _ => AV) (motive_2 := fun _ => List AV) (fun b => .bool b) (fun k n => .int k n) (fun n v => .str n v) .nilptr (fun b o => .ptr (σ b) o) .nilslice (fun b o l c => .slice (σ b) o l c)
      (fun f _ _ a b => .func f a b) .nilFunc (fun t _ v => .iface t v) .nilIface (fun _ l => .agg l) (fun _ l => .tup l) (fun b => .map (σ b)) .nilmap (fun k a b => .rng k a b) (fun k n => .sym k n) [] (fun _ _ a r => a :: r) a)
      (AV.rec_1 (motive_1 := fun _ => AV) (motive_2 := fun _ => List AV) (fun b => .bool b) (fun k n => .int k n) (fun n v => .str n v) .nilptr (fun b o => .ptr (σ b) o) .nilslice (fun b o l c => .slice (σ b) o l c)
      (fun f _ _ a b => .func f a b) .nilFunc (fun t _ v => .iface t v) .nilIface (fun _ l => .agg l) (fun _ l => .tup l) (fun b => .map (σ b)) .nilmap (fun k a b => .rng k a b) (fun k n => .sym k n) [] (fun _ _ a r => a :: r) b) := rfl
  rw [e, g, g]
theorem mvL_length (σ : Nat → Nat) : ∀ l : List AV, (mvL σ l).length = l.length
  | [] => rfl
  | _ :: l => congrArg Nat.succ (mvL_length σ l)
theorem mvL_get (σ : Nat → Nat) : ∀ (l : List AV) {i : Nat}, i < l.length → (mvL σ l).getD i und = mvA σ (l.getD i und)
  | [], i, hi => by simp at hi
  | x :: l, i, hi => by
    cases i with
    | zero => rfl
    | succ i =>
      have := mvL_get σ l (i := i) (by simpa using hi)
      show (mvL σ l).getD i und = mvA σ (l.getD i und)
      exact this
section
variable {ρ1 ρ2 : Ren} {σ1 σ2 : Nat → Nat}
mutual
theorem VR.mv (H : ∀ i x, ρ1 (σ1 i) = some x → ρ2 (σ2 i) = some x) : ∀ (a : AV) (v : Value), VR ρ1 (mvA σ1 a) v → VR ρ2 (mvA σ2 a) v
  | .bool _, _, e | .int _ _, _, e | .str _ _, _, e | .nilptr, _, e | .nilslice, _, e | .nilFunc, _, e | .nilIface, _, e | .nilmap, _, e | .rng _ _ _, _, e | .sym _ _, _, e => e
  | .ptr b off, v, e => by
    obtain ⟨B, o, N, e1, e2⟩ := VR_ptr.1 (show VR ρ1 (.ptr (σ1 b) off) v from e)
    exact VR_ptr.2 ⟨B, o, N, H _ _ e1, e2⟩
  | .slice b off len cap, v, e => by
    obtain ⟨B, o, N, c, a, e1, e2⟩ := VR_slice.1 (show VR ρ1 (.slice (σ1 b) off len cap) v from e)
    exact VR_slice.2 ⟨B, o, N, c, a, H _ _ e1, e2⟩
  | .func f x y, v, e => by
    rw [mvA_func] at e ⊢
    obtain ⟨a, b, e1, e2, e3⟩ := VR_func.1 e
    exact VR_func.2 ⟨a, b, e1, VL.mv H x a e2, VL.mv H y b e3⟩
  | .iface t x, v, e => by
    have e : VR ρ1 (.iface t (mvA σ1 x)) v := e
    show VR ρ2 (.iface t (mvA σ2 x)) v
    unfold VR at e ⊢
    obtain ⟨u, e1, e2⟩ := e
    exact ⟨u, e1, VR.mv H x u e2⟩
  | .agg cs, v, e => by
    rw [mvA_agg] at e ⊢
    obtain ⟨us, e1, e2, e3⟩ := VR_agg.1 e
    exact VR_agg.2 ⟨us, e1, VL.mv H cs us e2, e3⟩
  | .tup cs, v, e => by
    rw [mvA_tup] at e ⊢
    obtain ⟨us, e1, e2⟩ := VR_tup.1 e
    exact VR_tup.2 ⟨us, e1, VL.mv H cs us e2⟩
  | .map b, v, e => by
    obtain ⟨B, e1, e2⟩ := VR_map.1 (show VR ρ1 (.map (σ1 b)) v from e)
    exact VR_map.2 ⟨B, H _ _ e1, e2⟩
theorem VL.mv (H : ∀ i x, ρ1 (σ1 i) = some x → ρ2 (σ2 i) = some x) : ∀ (as : List AV) (us : List Value), VL ρ1 (mvL σ1 as) us → VL ρ2 (mvL σ2 as) us
  | [], _, e => e
  | a :: as, us, e => by
    have e : VL ρ1 (mvA σ1 a :: mvL σ1 as) us := e
    show VL ρ2 (mvA σ2 a :: mvL σ2 as) us
    unfold VL at e ⊢
    obtain ⟨u, r, e1, e2, e3⟩ := e
    exact ⟨u, r, e1, VR.mv H a u e2, VL.mv H as r e3⟩
end
end
/-! ## Values without addresses -/
/-- a value that reads alike whatever its names are -/
noncomputable def flatL (l : List AV) : Bool := avEq (.agg (mvL (fun _ => mostBlocks) l)) (.agg l)
theorem VL.flat {ρ ρ' : Ren} {l : List AV} {us : List Value} (hd : ∀ b x, ρ b = some x → b < mostBlocks) (h : flatL l = true) (e : VL ρ l us) : VL ρ' l us := by
  have q : mvL (fun _ => mostBlocks) l = l := AV.agg.inj (avEq_sound _ _ h)
  rw [← q] at e ⊢
  refine VL.mv (fun i x hx => ?_) l us e
  exact absurd (hd _ x hx) (Nat.lt_irrefl mostBlocks)
/-! ## A known call -/
structure Known where
  args : List AV
  v : AV
  bs : List (List AV)
  τ : List Nat
noncomputable def tauOf (l : List Nat) (i : Nat) : Nat := lgetD mostBlocks l i
noncomputable def layAll (σ : Nat → Nat) (bs : List (List AV)) : H → (H → RV) → RV := List.rec (motive := fun _ => H → (H → RV) → RV) (fun h k => k h) (fun l _ ih h k => forceL (mvL σ l) fun l => newBlk h l fun _ h => ih h k) bs
noncomputable def knownOne (e : Known) (h : H) : RV := forceN h.nx fun nx => layAll (fun i => Nat.add i nx) e.bs h fun h' => mkV (mvA (fun i => Nat.add i nx) e.v) h'
noncomputable def knownNat (t : List Known) (args : List AV) (h : H) : RV := List.rec (motive := fun _ => RV) (.fail 92) (fun e _ ih => ifB (avEq (.agg args) (.agg e.args)) (knownOne e h) ih) t
noncomputable def blockIs (x : Blk) (l : List AV) : Bool := Blk.rec (motive := fun _ => Bool) false (fun ro sz cs => ifB ro false (and2 (Nat.beq sz (llen l)) (cgets cs sz 0 fun l' => avEq (.agg l') (.agg l)))) (fun _ => false) x
noncomputable def blocksAre (σ : Nat → Nat) (h : H) (bs : List (List AV)) : List Nat → Bool := List.rec (motive := fun _ => List Nat → Bool) (fun _ => true) (fun l _ ih τ => List.rec (motive := fun _ => Bool) false (fun b r _ => and2 (blockIs (hget h b) (mvL σ l)) (ih r)) τ) bs
noncomputable def apartN (l : List Nat) : Bool := List.rec (motive := fun _ => Bool) true (fun a r ih => and2 (lall (fun b => Bool.not (Nat.beq a b)) r) ih) l
noncomputable def knownIs (r : RV) (e : Known) : Bool := and2 (flatL e.args) (and2 (apartN e.τ) (rvk r (fun v h => and2 (avEq v (mvA (tauOf e.τ) e.v)) (and2 (Nat.beq (llen e.bs) (llen e.τ)) (blocksAre (tauOf e.τ) h e.bs e.τ))) (fun _ => false)))
theorem blockIs_eq {x : Blk} {l : List AV} (h : blockIs x l = true) : ∃ cs, x = .live false l.length cs ∧ ∀ i, i < l.length → cget cs i = l.getD i und := by
  cases x with
  | dead => cases h
  | mp _ => cases h
  | live ro sz cs =>
    have h : ifB ro false (and2 (Nat.beq sz (llen l)) (cgets cs sz 0 fun l' => avEq (.agg l') (.agg l))) = true := h
    cases ro with
    | true => cases h
    | false =>
      obtain ⟨h1, h2⟩ := and2_true (show and2 _ _ = true from h)
      rw [cgets_eq] at h2
      have h3 := AV.agg.inj (avEq_sound _ _ h2)
      have h1 := beq_true.1 h1
      rw [llen_eq] at h1
      subst h1
      refine ⟨cs, rfl, fun i hi => ?_⟩
      have := congrArg (fun q : List AV => q.getD i und) h3
      simp only [List.getD_eq_getElem?_getD, List.getElem?_map, List.getElem?_range hi, Option.map_some, Option.getD_some, Nat.zero_add] at this
      rw [List.getD_eq_getElem?_getD]
      exact this
theorem blocksAre_get {σ : Nat → Nat} {h : H} : ∀ {bs : List (List AV)} {τ : List Nat}, blocksAre σ h bs τ = true → ∀ (i : Nat) (l : List AV), bs[i]? = some l → ∃ b, τ[i]? = some b ∧ blockIs (hget h b) (mvL σ l) = true
  | [], _, _, i, l, e => by simp at e
  | a :: bs, [], x, _, _, _ => by cases (show false = true from x)
  | a :: bs, b :: τ, x, i, l, e => by
    obtain ⟨h1, h2⟩ := and2_true (show and2 (blockIs (hget h b) (mvL σ a)) (blocksAre σ h bs τ) = true from x)
    cases i with
    | zero =>
      have : a = l := by simpa using e
      subst this
      exact ⟨b, by simp, h1⟩
    | succ i => simpa using blocksAre_get h2 i l (by simpa using e)
theorem apartN_inj : ∀ {l : List Nat}, apartN l = true → ∀ (i j a : Nat), l[i]? = some a → l[j]? = some a → i = j
  | [], _, i, j, a, e, _ => by simp at e
  | x :: l, h, i, j, a, e, e' => by
    obtain ⟨h1, h2⟩ := and2_true (show and2 (lall (fun b => Bool.not (Nat.beq x b)) l) (apartN l) = true from h)
    have h1 := (lall_iff _ _).1 h1
    have no : ∀ k, l[k]? ≠ some x := fun k hk => by
      have := h1 x (List.mem_of_getElem? hk)
      rw [Nat.beq_refl] at this; cases this
    cases i with
    | zero =>
      have : x = a := by simpa using e
      subst this
      cases j with
      | zero => rfl
      | succ j => exact absurd (by simpa using e') (no j)
    | succ i =>
      cases j with
      | zero =>
        have : x = a := by simpa using e'
        subst this
        exact absurd (by simpa using e) (no i)
      | succ j => exact congrArg Nat.succ (apartN_inj h2 i j a (by simpa using e) (by simpa using e'))
theorem layAll_val {σ : Nat → Nat} : ∀ (bs : List (List AV)) (h : H) (k : H → RV) (v : AV) (h' : H), layAll σ bs h k = .val v h' →
    ∃ h1, k h1 = .val v h' ∧ h1.nx = h.nx + bs.length ∧ (bs ≠ [] → h1.nx ≤ mostBlocks) ∧ ∀ b, b < mostBlocks → hget h1 b = if h.nx ≤ b ∧ b < h.nx + bs.length then blkOf (mvL σ (bs.getD (b - h.nx) [])) else hget h b
  | [], h, k, v, h', e => ⟨h, e, rfl, fun h => absurd rfl h, fun b _ => by rw [if_neg (by simp)]⟩
  | l :: bs, h, k, v, h', e => by
    have e : forceL (mvL σ l) (fun l => newBlk h l fun _ h => layAll σ bs h k) = .val v h' := e
    rw [forceL_eq] at e
    obtain ⟨hm, e⟩ := newBlk_val e
    obtain ⟨h1, e1, e2, e3, e4⟩ := layAll_val bs _ k v h' e
    have e2 : h1.nx = h.nx + 1 + bs.length := e2
    refine ⟨h1, e1, by rw [e2, List.length_cons]; omega, fun _ => ?_, fun b hb => ?_⟩
    · cases bs with
      | nil => rw [e2]; exact hm
      | cons _ _ => exact e3 (by simp)
    · rw [e4 b hb]
      show (if h.nx + 1 ≤ b ∧ b < h.nx + 1 + bs.length then _ else _) = _
      rw [List.length_cons]
      by_cases c : h.nx + 1 ≤ b ∧ b < h.nx + 1 + bs.length
      · rw [if_pos c, if_pos (by omega)]
        show blkOf (mvL σ (bs.getD (b - (h.nx + 1)) [])) = _
        obtain ⟨q, hq⟩ : ∃ q, b - h.nx = q + 1 := ⟨b - h.nx - 1, by omega⟩
        rw [hq, show b - (h.nx + 1) = q by omega]
        rfl
      · rw [if_neg c, hget_set hm hb]
        by_cases d : b = h.nx
        · subst d
          rw [if_pos rfl, if_pos (by omega), Nat.sub_self]
          rfl
        · rw [if_neg d, if_neg (by omega)]
section
variable {P : Program}
/-- a known call keeps its contract -/
theorem known_ok (hok : progOk P = true) (hsz : P.globals.size ≤ mostBlocks) {nat : Nats} (hnat : NatsOK P nat) {n : Nat} {f : FuncId} (hb : hasBody P f = true) {t : List Known}
    (ht : ∀ e ∈ t, knownIs ((callN P nat n).f f e.args (h0 P)) e = true) : NatOK P f (knownNat t) := by
  intro args h v h' e ρ w us hr hg hn hv
  have key : ∀ t : List Known, (∀ e ∈ t, knownIs ((callN P nat n).f f e.args (h0 P)) e = true) → knownNat t args h = .val v h' → ∃ e, knownIs ((callN P nat n).f f e.args (h0 P)) e = true ∧ args = e.args ∧ knownOne e h = .val v h' := by
    intro t
    induction t with
    | nil => intro _ e; exact (fail_val (show RV.fail 92 = .val v h' from e)).elim
    | cons a t ih =>
      intro ht e
      have e : ifB (avEq (.agg args) (.agg a.args)) (knownOne a h) (knownNat t args h) = .val v h' := e
      cases hq : avEq (.agg args) (.agg a.args) with
      | true => rw [hq] at e; exact ⟨a, ht a (by simp), AV.agg.inj (avEq_sound _ _ hq), e⟩
      | false => rw [hq] at e; exact ih (fun e he => ht e (List.mem_cons_of_mem _ he)) e
  obtain ⟨a, ha, rfl, e0⟩ := key t ht e
  clear key ht e
  obtain ⟨h1, h2⟩ := and2_true ha
  obtain ⟨h2, h3⟩ := and2_true h2
  cases hrun : (callN P nat n).f f a.args (h0 P) with
  | fail y => rw [hrun] at h3; cases h3
  | val v1 hh =>
    rw [hrun] at h3
    obtain ⟨h4, h5⟩ := and2_true (show and2 _ _ = true from h3)
    obtain ⟨h5, h6⟩ := and2_true h5
    have h4 := avEq_sound _ _ h4
    have h5 := beq_true.1 h5
    rw [llen_eq, llen_eq] at h5
    have hfn : (callFunc f ⟨us⟩).run P w = .ok (.enter f ⟨us⟩) w := by
      unfold hasBody at hb
      cases hf : P.funcs[f]? with
      | none => rw [hf] at hb; cases hb
      | some fn =>
        rw [hf] at hb
        obtain ⟨q1, q2⟩ := Bool.and_eq_true_iff.1 (show (!fn.body.isNone && !(fn.name == "runtime.NumGoroutine")) = true from hb)
        exact callFunc_run hf (by simpa using q1) (by simpa using q2)
    refine ⟨hfn, ?_⟩
    obtain ⟨k1, k2, k3⟩ := start_ok hsz w
    have hm : P.follows .mixedOrders = true := hok
    refine (callN_ok (draws_ok hm) hnat n f a.args (h0 P) v1 hh hrun (ren0 P) w us k1 k2 k3 (hv.flat hr.dom h1)).2.mono fun e' w' q => ?_
    obtain ⟨u, ρ', he, hu, st⟩ := q
    have kept : Kept w w' := ⟨st.size, fun B hB => st.keep B hB fun b o N _ hw => by rw [hget_h0] at hw; exact hw, st.still⟩
    have e : forceN h.nx (fun nx => layAll (fun i => Nat.add i nx) a.bs h fun h' => mkV (mvA (fun i => Nat.add i nx) a.v) h') = .val v h' := e0
    rw [forceN_eq] at e
    obtain ⟨g, g1, g2, g3, g4⟩ := layAll_val _ _ _ _ _ e
    rw [mkV_eq] at g1
    cases g1
    -- the new names
    have hlen : ∀ i, i < a.bs.length → ∃ b, a.τ[i]? = some b ∧ blockIs (hget hh b) (mvL (tauOf a.τ) (a.bs.getD i [])) = true := fun i hi => by
      obtain ⟨b, q1, q2⟩ := blocksAre_get h6 i (a.bs[i]) (by simp [hi])
      exact ⟨b, q1, by rw [List.getD_eq_getElem?_getD, List.getElem?_eq_getElem hi]; exact q2⟩
    have tau : ∀ i b, a.τ[i]? = some b → tauOf a.τ i = b := fun i b hq => by unfold tauOf; rw [lgetD_eq, List.getD_eq_getElem?_getD, hq]; rfl
    let ρ2 : Ren := fun b => if h.nx ≤ b ∧ b < h.nx + a.bs.length then ρ' (tauOf a.τ (b - h.nx)) else ρ b
    have new : ∀ i, i < a.bs.length → ρ2 (Nat.add i h.nx) = ρ' (tauOf a.τ i) := fun i hi => by
      show (if h.nx ≤ i + h.nx ∧ i + h.nx < h.nx + a.bs.length then ρ' (tauOf a.τ (i + h.nx - h.nx)) else ρ (i + h.nx)) = _
      rw [if_pos (by omega), Nat.add_sub_cancel]
    have H : ∀ i x, ρ' (tauOf a.τ i) = some x → ρ2 (Nat.add i h.nx) = some x := fun i x hx => by
      by_cases hi : i < a.bs.length
      · rw [new i hi]; exact hx
      · have : tauOf a.τ i = mostBlocks := by
          unfold tauOf
          rw [lgetD_eq, List.getD_eq_getElem?_getD, List.getElem?_eq_none (by omega)]; rfl
        rw [this] at hx
        exact absurd (st.hr.dom _ x hx) (Nat.lt_irrefl mostBlocks)
    have old : ∀ b, ¬ (h.nx ≤ b ∧ b < h.nx + a.bs.length) → ρ2 b = ρ b := fun b hq => if_neg hq
    have inn : ∀ b, (h.nx ≤ b ∧ b < h.nx + a.bs.length) → ρ2 b = ρ' (tauOf a.τ (b - h.nx)) := fun b hq => if_pos hq
    have top : ∀ b, (h.nx ≤ b ∧ b < h.nx + a.bs.length) → b < mostBlocks := fun b hq => by
      have := g3 (fun e => by rw [e] at hq; simp at hq; omega)
      omega
    -- what is known of a new name
    have fresh : ∀ b B o N, (h.nx ≤ b ∧ b < h.nx + a.bs.length) → ρ2 b = some (B, o, N) → w.heap.size ≤ B ∧ BR ρ2 (hget h' b) B o N w' ∧ wl (hget h' b) := by
      intro b B o N hq hx
      rw [inn b hq] at hx
      obtain ⟨c, q1, q2⟩ := hlen (b - h.nx) (by omega)
      rw [tau _ _ q1] at hx
      obtain ⟨cs, q3, q4⟩ := blockIs_eq q2
      rw [g4 b (top b hq), if_pos hq]
      have hw : wl (hget hh c) := by rw [q3]; trivial
      refine ⟨?_, ?_, trivial⟩
      · rcases st.rng c B o N hx hw with q | ⟨b0, o0, N0, _, q⟩
        · exact q
        · rw [hget_h0] at q; exact q.elim
      · have hb := st.hr.blk c B o N hx
        rw [q3] at hb
        obtain ⟨cc, ty, fz, r1, r2, r3, r4, r5⟩ := hb
        have ll := mvL_length (tauOf a.τ) (a.bs.getD (b - h.nx) [])
        have ll2 := mvL_length (fun i => Nat.add i h.nx) (a.bs.getD (b - h.nx) [])
        refine ⟨cc, ty, fz, r1, r2, by rw [ll2, ← ll]; exact r3, r4, fun i hi => ?_⟩
        obtain ⟨u, s1, s2, s3⟩ := r5 i (by omega)
        refine ⟨u, s1, ?_, s3⟩
        rw [q4 i (by omega)] at s2
        rw [cget_csets, if_pos (by omega), Nat.sub_zero]
        rw [mvL_get _ _ (by omega)] at s2
        rw [mvL_get _ _ (by omega)]
        exact VR.mv H _ u s2
    have oldB : ∀ b B o N, ¬ (h.nx ≤ b ∧ b < h.nx + a.bs.length) → ρ b = some (B, o, N) → hget h' b = hget h b := fun b B o N hq hx => by
      rw [g4 b (hr.dom b _ hx), if_neg hq]
    have le : ρ.le ρ2 := fun b x hx => by
      rw [old b (fun hq => by rw [hn.none b hq.1] at hx; cases hx)]
      exact hx
    refine ⟨u, ρ2, he, ?_, ⟨⟨le, ⟨fun b B o N hx => ?_, fun b b' B o N o' N' hx hx' l l' => ?_, fun b x hx => ?_⟩, fun b B o N hx hw => ?_, fun b B o N hx hl hw => ?_, kept.1, fun B hB _ => kept.2.1 B hB, kept.2.2⟩, fun b x hx => ?_, by rw [g2]; omega, fun hc b hb hm => ?_, fun b hb hm hd => ?_, fun b hb hm _ => ?_⟩⟩
    · rw [h4] at hu
      exact VR.mv H _ u hu
    · by_cases hq : h.nx ≤ b ∧ b < h.nx + a.bs.length
      · exact (fresh b B o N hq hx).2.1
      · rw [old b hq] at hx
        rw [oldB b B o N hq hx]
        have hb := hr.blk b B o N hx
        by_cases hl : lv (hget h b)
        · exact hb.mono le (kept.2.1 B (hb.lt hl))
        · rw [lv_dead hl]; trivial
    · by_cases hq : h.nx ≤ b ∧ b < h.nx + a.bs.length <;> by_cases hq' : h.nx ≤ b' ∧ b' < h.nx + a.bs.length
      · rw [inn b hq] at hx
        rw [inn b' hq'] at hx'
        obtain ⟨c, q1, q2⟩ := hlen (b - h.nx) (by omega)
        obtain ⟨c', q1', q2'⟩ := hlen (b' - h.nx) (by omega)
        rw [tau _ _ q1] at hx
        rw [tau _ _ q1'] at hx'
        obtain ⟨_, w1, _⟩ := blockIs_eq q2
        obtain ⟨_, w2, _⟩ := blockIs_eq q2'
        have : c = c' := st.hr.inj c c' B o N o' N' hx hx' (by rw [w1]; trivial) (by rw [w2]; trivial)
        subst this
        have := apartN_inj h2 _ _ _ q1 q1'
        omega
      · have f1 := (fresh b B o N hq hx).1
        rw [old b' hq'] at hx'
        rw [oldB b' _ _ _ hq' hx'] at l'
        have := (hr.blk b' _ _ _ hx').lt l'
        omega
      · have f1 := (fresh b' B o' N' hq' hx').1
        rw [old b hq] at hx
        rw [oldB b _ _ _ hq hx] at l
        have := (hr.blk b _ _ _ hx).lt l.lv
        omega
      · rw [old b hq] at hx
        rw [old b' hq'] at hx'
        rw [oldB b _ _ _ hq hx] at l
        rw [oldB b' _ _ _ hq' hx'] at l'
        exact hr.inj b b' B o N o' N' hx hx' l l'
    · by_cases hq : h.nx ≤ b ∧ b < h.nx + a.bs.length
      · exact top b hq
      · rw [old b hq] at hx; exact hr.dom b x hx
    · by_cases hq : h.nx ≤ b ∧ b < h.nx + a.bs.length
      · exact .inl (fresh b B o N hq hx).1
      · rw [old b hq] at hx
        rw [oldB b _ _ _ hq hx] at hw
        exact .inr ⟨b, o, N, hx, hw⟩
    · by_cases hq : h.nx ≤ b ∧ b < h.nx + a.bs.length
      · exact absurd (fresh b B o N hq hx).2.2 hw
      · rw [old b hq] at hx
        rw [oldB b _ _ _ hq hx] at hw hl
        exact ⟨hx, hl, hw⟩
    · by_cases hq : h.nx ≤ b ∧ b < h.nx + a.bs.length
      · exact .inr ⟨hq.1, by rw [g2]; exact hq.2⟩
      · rw [old b hq] at hx; exact .inl hx
    · rw [g2] at hb
      rw [g4 b hm, if_neg (by omega)]
      exact hc b (by omega) hm
    · rw [g4 b hm, if_neg (by omega)]; exact hd
    · rw [g4 b hm, if_neg (by omega)]
noncomputable def knownsB (P : Program) (nat : Nats) (n : Nat) (f : FuncId) (t : List Known) : Bool := lall (fun e => knownIs ((callN P nat n).f f e.args (h0 P)) e) t
def KnownAll (P : Program) (nat : Nats) (n : Nat) (f : FuncId) (t : List Known) : Prop := ∀ e ∈ t, knownIs ((callN P nat n).f f e.args (h0 P)) e = true
theorem KnownAll.of {nat : Nats} {n : Nat} {f : FuncId} {t : List Known} (h : knownsB P nat n f t = true) : KnownAll P nat n f t := (lall_iff _ _).1 h
theorem KnownAll.app {nat : Nats} {n : Nat} {f : FuncId} {t t' : List Known} (h : KnownAll P nat n f t) (h' : KnownAll P nat n f t') : KnownAll P nat n f (lapp t t') := fun e he => by
  rw [lapp_eq] at he
  exact (List.mem_append.1 he).elim (h e) (h' e)
/-- functions with laws of their own, listed -/
noncomputable def natsOf (l : List (FuncId × (List AV → H → RV))) : Nats := fun f => List.rec (motive := fun _ => Option (List AV → H → RV)) none (fun a _ ih => ifB (Nat.beq a.1 f) (some a.2) ih) l
theorem natsOf_nil : NatsOK P (natsOf []) := fun _ _ h => by cases h
theorem natsOf_cons {f : FuncId} {g : List AV → H → RV} {l : List (FuncId × (List AV → H → RV))} (h : NatOK P f g) (t : NatsOK P (natsOf l)) : NatsOK P (natsOf ((f, g) :: l)) := by
  intro f' g' e
  have e : ifB (Nat.beq f f') (some g) (natsOf l f') = some g' := e
  cases hq : Nat.beq f f' with
  | true => rw [hq] at e; cases e; rw [← beq_true.1 hq]; exact h
  | false => rw [hq] at e; exact t f' g' e
end
end Go.Eng
