/- What is proved: what a function gave when it was run once on told ints, it gives for all ints. Conditions: none. -/
import Derived.Test.YtgccjneplchojaaGreatDoorWG
set_option linter.unusedVariables false
set_option linter.unusedSimpArgs false
set_option linter.unusedSectionVars false
namespace Go.Eng
set_option autoImplicit false
section
variable [Deep] [Env] {P : Program}
/-! ## Blocks that are only read -/
noncomputable def roBlk (l : List AV) : Blk := .live true l.length (csetsD l .e 0)
noncomputable def layRo (bs : List (List AV)) : H → (H → RV) → RV := List.rec (motive := fun _ => H → (H → RV) → RV) (fun h k => k h) (fun l _ ih h k => csets l .e 0 fun cs => forceN (llen l) fun n => newB h (.live true n cs) fun _ h => ih h k) bs
theorem layRo_val : ∀ (bs : List (List AV)) (h : H) (k : H → RV) (v : AV) (h' : H), layRo bs h k = .val v h' →
    ∃ h1, k h1 = .val v h' ∧ h1.nx = h.nx + bs.length ∧ (bs ≠ [] → h1.nx ≤ mostBlocks) ∧ ∀ b, b < mostBlocks → hget h1 b = if h.nx ≤ b ∧ b < h.nx + bs.length then roBlk (bs.getD (b - h.nx) []) else hget h b
  | [], h, k, v, h', e => ⟨h, e, rfl, fun h => absurd rfl h, fun b _ => by rw [if_neg (by simp)]⟩
  | l :: bs, h, k, v, h', e => by
    have e : csets l .e 0 (fun cs => forceN (llen l) fun n => newB h (.live true n cs) fun _ h => layRo bs h k) = .val v h' := e
    rw [csets_eq, forceN_eq, llen_eq] at e
    obtain ⟨hm, e⟩ := newB_val e
    obtain ⟨h1, e1, e2, e3, e4⟩ := layRo_val bs _ k v h' e
    have e2 : h1.nx = h.nx + 1 + bs.length := e2
    refine ⟨h1, e1, by rw [e2, List.length_cons]; omega, fun _ => ?_, fun b hb => ?_⟩
    · cases bs with
      | nil => rw [e2]; exact hm
      | cons _ _ => exact e3 (by simp)
    · rw [e4 b hb]
      show (if h.nx + 1 ≤ b ∧ b < h.nx + 1 + bs.length then _ else _) = _
      rw [List.length_cons]
      by_cases c : h.nx + 1 ≤ b ∧ b < h.nx + 1 + bs.length
      · rw [if_pos c, if_pos (by omega)]
        show roBlk (bs.getD (b - (h.nx + 1)) []) = _
        obtain ⟨q, hq⟩ : ∃ q, b - h.nx = q + 1 := ⟨b - h.nx - 1, by omega⟩
        rw [hq, show b - (h.nx + 1) = q by omega]
        rfl
      · rw [if_neg c, hget_set hm hb]
        by_cases d : b = h.nx
        · subst d
          rw [if_pos rfl, if_pos (by omega), Nat.sub_self]
          rfl
        · rw [if_neg d, if_neg (by omega)]
/-- the program's variables, and where each block lies -/
def renT (P : Program) (n : Nat) (x : Nat → Nat × Nat × Nat) : Ren := fun b => if b < P.globals.size then some (b, 0, 0) else if b < P.globals.size + n then some (x (b - P.globals.size)) else none
theorem told_calls (hok : progOk P = true) (hsz : P.globals.size ≤ mostBlocks) {nat : Nats} (hnat : NatsOK P nat) {n : Nat} {f : FuncId} {args : List AV} {bs : List (List AV)} {us : List Value} {v : AV} {h' : H} {w : World}
    {x : Nat → Nat × Nat × Nat} (e : layRo bs (h0 P) (fun h => (callN P nat n).f f args h) = .val v h')
    (hb : ∀ i l, bs[i]? = some l → BR (renT P bs.length x) (roBlk l) (x i).1 (x i).2.1 (x i).2.2 w)
    (hv : VL (renT P bs.length x) args us) :
    (callFunc f ⟨us⟩).run P w = .ok (.enter f ⟨us⟩) w ∧ Calls P f ⟨us⟩ w fun e w' => ∃ u ρ', e = .returned u ∧ VR ρ' v u ∧ (renT P bs.length x).le ρ' ∧ Kept w w' := by
  obtain ⟨h1, e1, e2, e3, e4⟩ := layRo_val _ _ _ _ _ e
  have hm : P.follows .mixedOrders = true := hok
  have e2 : h1.nx = P.globals.size + bs.length := e2
  have e4 : ∀ b, b < mostBlocks → hget h1 b = if P.globals.size ≤ b ∧ b < P.globals.size + bs.length then roBlk (bs.getD (b - P.globals.size) []) else .dead := fun b hb => by
    rw [e4 b hb, hget_h0]; rfl
  have top : ∀ b, b < P.globals.size + bs.length → b < mostBlocks := fun b hb => by
    cases bs with
    | nil => simp at hb; omega
    | cons _ _ => have := e3 (by simp); omega
  have mem : ∀ b y, renT P bs.length x b = some y → b < P.globals.size + bs.length ∧ (¬ b < P.globals.size → y = x (b - P.globals.size)) := fun b y hy => by
    unfold renT at hy
    split at hy
    · exact ⟨by omega, fun h => absurd (by assumption) h⟩
    · split at hy
      · cases hy; exact ⟨by assumption, fun _ => rfl⟩
      · cases hy
  have dead : ∀ b, b < P.globals.size → hget h1 b = .dead := fun b hb => by rw [e4 b (by omega), if_neg (by omega)]
  have live : ∀ b, lv (hget h1 b) → b < P.globals.size + bs.length → ¬ b < P.globals.size := fun b hl _ hb => by rw [dead b hb] at hl; exact hl
  have nw : ∀ b, b < P.globals.size + bs.length → ¬ wl (hget h1 b) := fun b hb hw => by
    rw [e4 b (top b hb)] at hw
    split at hw
    · exact hw
    · exact hw
  have hr : HR (renT P bs.length x) h1 w := by
    refine ⟨fun b B o N hy => ?_, fun b b' B o N o' N' hy hy' l l' => ?_, fun b y hy => top b (mem b y hy).1⟩
    · obtain ⟨q1, q2⟩ := mem b _ hy
      by_cases c : b < P.globals.size
      · rw [dead b c]; trivial
      · have q2 := q2 c
        obtain ⟨l, hl⟩ : ∃ l, bs[b - P.globals.size]? = some l := ⟨_, List.getElem?_eq_getElem (by omega)⟩
        have := hb _ l hl
        rw [← q2] at this
        rw [e4 b (top b q1), if_pos ⟨by omega, q1⟩, List.getD_eq_getElem?_getD, hl]
        exact this
    · exact (nw b (mem b _ hy).1 l).elim
  have hg : GR P (renT P bs.length x) := fun g hg => ⟨0, if_pos hg⟩
  have hf : Fresh (renT P bs.length x) h1 := ⟨fun b hb => by unfold renT; rw [if_neg (by omega), if_neg (by omega)], fun b hb hm => by rw [e4 b hm, if_neg (by omega)]⟩
  obtain ⟨c1, c2⟩ := callN_ok (draws_ok hm) hnat n f args h1 v h' e1 _ w us hr hg hf hv
  refine ⟨c1, c2.mono fun e' w' q => ?_⟩
  obtain ⟨u, ρ', he, hu, st⟩ := q
  exact ⟨u, ρ', he, hu, st.le, st.size, fun B hB => st.keep B hB fun b o N hy hw => nw b (mem b _ hy).1 hw, st.still⟩
end
end Go.Eng
namespace Go.Eng
set_option autoImplicit false
variable [Deep]
section
variable {P : Program}
/-! ## Told lists -/
theorem se_list_pr [Env] (e r : SE) : (SE.pr e r).list = e.val :: r.list := rfl
theorem se_list_c [Env] (n : Nat) : (SE.c n).list = [] := rfl
theorem se_val_c [Env] (n : Nat) : (SE.c n).val = n := rfl
theorem se_val_v [I : Env] (n : Nat) : (SE.v n).val = I.e n := rfl
theorem se_val_app [I : Env] (i : Nat) (x : SE) : (SE.app i x).val = I.f i x.list := rfl
/-- a list of told ints has such values -/
def ToldL [Env] (k : IntKind) (l : List AV) (ns : List Nat) : Prop := ns.length = l.length ∧ ∀ (i : Nat) (a : AV) (n : Nat), l[i]? = some a → ns[i]? = some n → ∀ (ρ : Ren) (u : Value), VR ρ a u → n < modN k ∧ u = .int k (sgn k n)
theorem seK_val [Env] {k : IntKind} {a : AV} {c : SE → RV} {v : AV} {h : H} (e : seK k a c = .val v h) : ∃ r : SE, c r = .val v h ∧ ∀ (ρ : Ren) (u : Value), VR ρ a u → r.val < modN k ∧ u = .int k (sgn k r.val) := by
  cases a <;> first | exact (fail_val e).elim | skip
  case int k' n =>
    obtain ⟨hk, e2⟩ := ifB_t (show ifB (keq k k') (c (.c n)) (.fail 96) = .val v h from e)
    obtain rfl := (keq_iff k k').1 hk
    exact ⟨.c n, e2, fun ρ u hu => VR_int.1 hu⟩
  case sym k' n =>
    obtain ⟨hk, e2⟩ := ifB_t (show ifB (keq k k') (c n) (.fail 96) = .val v h from e)
    obtain rfl := (keq_iff k k').1 hk
    exact ⟨n, e2, fun ρ u hu => VR_sym.1 hu⟩
theorem seL_val [Env] {k : IntKind} {tail : SE} {v : AV} {h : H} : ∀ {l : List AV} {c : SE → RV}, seL k l tail c = .val v h → ∃ (r : SE) (ns : List Nat), c r = .val v h ∧ r.list = ns ++ tail.list ∧ ToldL k l ns
  | [], c, e => ⟨tail, [], e, rfl, rfl, fun i a n h => by simp at h⟩
  | a :: l, c, e => by
    have e : seL k l tail (fun r => seK k a fun e => c (.pr e r)) = .val v h := e
    obtain ⟨r, ns, e1, e2, e3, e4⟩ := seL_val e
    obtain ⟨x, e5, e6⟩ := seK_val e1
    refine ⟨.pr x r, x.val :: ns, e5, by rw [se_list_pr, e2]; rfl, by simp [e3], fun i b n hb hn => ?_⟩
    cases i with
    | zero =>
      have hb : a = b := by simpa using hb
      have hn : x.val = n := by simpa using hn
      subst hb; subst hn
      exact e6
    | succ i => exact e4 i b n (by simpa using hb) (by simpa using hn)
/-! ## The run they are told by -/
def cellsC (k : IntKind) (i n : Nat) : List AV := (List.range n).map fun j => .sym k (.v (i + j))
def cnt : List Sh → Nat
  | [] => 0
  | .agg _ n :: ss => n + cnt ss
  | .con _ _ :: ss => cnt ss
noncomputable def frontC : List Sh → Nat → List AV
  | [], _ => []
  | .agg k n :: ss, i => .agg (cellsC k i n) :: frontC ss (i + n)
  | .con k ns :: ss, i => .agg (intL k ns) :: frontC ss i
/-- the ints of a list, by their numbers -/
abbrev envL (L : List Nat) : Env := ⟨fun q => L.getD q 0, fun _ _ => 0⟩
theorem cellsC_get {k : IntKind} {i n j : Nat} (h : j < n) : (cellsC k i n)[j]? = some (.sym k (.v (i + j))) := by
  unfold cellsC
  rw [List.getElem?_map, List.getElem?_range h]; rfl
theorem cellsC_length {k : IntKind} {i n : Nat} : (cellsC k i n).length = n := by unfold cellsC; simp
theorem told_cells [E : Env] {k : IntKind} {l : List AV} {ns L : List Nat} {i : Nat} (t : ToldL k l ns) (hL : ∀ q, q < ns.length → L.getD (i + q) 0 = ns.getD q 0) {ρ ρ' : Ren} {us : List Value} (hv : VL ρ l us) : @VL (envL L) ρ' (cellsC k i l.length) us := by
  refine @VL.mk _ (envL L) _ _ _ (by rw [cellsC_length]; exact hv.length) fun j a hj => ?_
  have hlt : j < l.length := by have := (List.getElem?_eq_some_iff.1 hj).1; rwa [cellsC_length] at this
  rw [cellsC_get hlt] at hj
  cases hj
  obtain ⟨b, hb⟩ : ∃ b, l[j]? = some b := ⟨_, List.getElem?_eq_getElem hlt⟩
  obtain ⟨n, hn⟩ : ∃ n, ns[j]? = some n := ⟨_, List.getElem?_eq_getElem (by rw [t.1]; exact hlt)⟩
  obtain ⟨u, hu, hr⟩ := hv.get j b hb
  obtain ⟨q1, q2⟩ := t.2 j b n hb hn ρ u hr
  have e : L.getD (i + j) 0 = n := by rw [hL j (by rw [t.1]; exact hlt), List.getD_eq_getElem?_getD, hn]; rfl
  refine ⟨u, hu, (@VR_sym _ (envL L) _ _ _ _).2 ?_⟩
  rw [@se_val_v _ (envL L)]
  show L.getD (i + j) 0 < modN k ∧ u = .int k (sgn k (L.getD (i + j) 0))
  rw [e]
  exact ⟨q1, q2⟩
theorem VL_intL [E : Env] (E' : Env) {k : IntKind} {ρ ρ' : Ren} : ∀ {ns : List Nat} {us : List Value}, @VL E ρ (intL k ns) us → @VL E' ρ' (intL k ns) us
  | [], us, h => by
    have h : @VL E ρ [] us := h
    unfold VL at h
    subst h
    exact @VL.nil _ E' _
  | n :: ns, us, h => by
    have h : @VL E ρ (.int k n :: intL k ns) us := h
    unfold VL at h
    obtain ⟨u, r, rfl, h1, h2⟩ := h
    exact @VL.cons _ E' _ _ _ _ _ ((@VR_int _ E' _ _ _ _).2 ((@VR_int _ E _ _ _ _).1 h1)) (@VL_intL E E' _ _ _ _ _ h2)
theorem gA_val [E : Env] {last : AV → (SE → RV) → RV} {Q : AV → SE → Prop} (hl : ∀ a c v h, last a c = .val v h → ∃ r, c r = .val v h ∧ Q a r) {v : AV} {h : H} : ∀ {ss : List Sh} {as : List AV} {c : SE → RV}, gA ss as last c = .val v h →
    ∃ (fr : List AV) (a : AV) (rt r : SE) (ns : List Nat), as = fr ++ [a] ∧ c r = .val v h ∧ Q a rt ∧ r.list = ns ++ rt.list ∧ ns.length = cnt ss ∧
      ∀ (L : List Nat) (i : Nat), (∀ q, q < cnt ss → L.getD (i + q) 0 = ns.getD q 0) → ∀ (ρ ρ' : Ren) (us : List Value), VL ρ fr us → @VL (envL L) ρ' (frontC ss i) us
  | [], [], c, e => (fail_val (show RV.fail 96 = .val v h from e)).elim
  | [], [a], c, e => by
    obtain ⟨r, e1, e2⟩ := hl a c v h e
    refine ⟨[], a, r, r, [], rfl, e1, e2, rfl, rfl, fun L i _ ρ ρ' us hv => ?_⟩
    unfold VL at hv
    subst hv
    exact @VL.nil _ (envL L) _
  | [], _ :: _ :: _, c, e => (fail_val (show RV.fail 96 = .val v h from e)).elim
  | s :: ss, [], c, e => (fail_val (show RV.fail 96 = .val v h from e)).elim
  | s :: ss, a :: as, c, e => by
    have e : gA ss as last (fun tail => shA s a tail c) = .val v h := e
    obtain ⟨fr, b, rt, r0, ns, q1, q2, q3, q4, q5, q6⟩ := gA_val hl e
    cases s with
    | agg k n =>
      obtain ⟨l, rfl, e1⟩ := asAgg_val (show asAgg a (fun l => ifB (Nat.beq (llen l) n) (seL k l r0 c) (.fail 96)) = .val v h from q2)
      obtain ⟨e2, e3⟩ := ifB_t e1
      have e2 := beq_true.1 e2
      rw [llen_eq] at e2
      obtain ⟨r, ms, e4, e5, t⟩ := seL_val e3
      refine ⟨.agg l :: fr, b, rt, r, ms ++ ns, by rw [q1]; rfl, e4, q3, by rw [e5, q4, List.append_assoc], by rw [List.length_append, q5, t.1, e2]; rfl, fun L i hL ρ ρ' us hv => ?_⟩
      unfold VL at hv
      obtain ⟨u, us, rfl, h1, h2⟩ := hv
      obtain ⟨ws, rfl, h3, h4⟩ := VR_agg.1 h1
      have hn : ms.length = n := by rw [t.1, e2]
      have c1 : ∀ q, q < ms.length → L.getD (i + q) 0 = ms.getD q 0 := fun q hq => by
        rw [hL q (by show q < n + cnt ss; omega), List.getD_eq_getElem?_getD, List.getD_eq_getElem?_getD, List.getElem?_append_left hq]
      have c2 : ∀ q, q < cnt ss → L.getD (i + n + q) 0 = ns.getD q 0 := fun q hq => by
        rw [Nat.add_assoc, hL (n + q) (by show n + q < n + cnt ss; omega), List.getD_eq_getElem?_getD, List.getD_eq_getElem?_getD, List.getElem?_append_right (by omega), hn, Nat.add_sub_cancel_left]
      refine @VL.cons _ (envL L) _ _ _ _ _ ((@VR_agg _ (envL L) _ _ _).2 ⟨ws, rfl, ?_, h4⟩) (q6 L (i + n) c2 ρ ρ' us h2)
      have := told_cells (i := i) (ρ' := ρ') t c1 h3
      rwa [e2] at this
    | con k ms =>
      obtain ⟨e1, e2⟩ := ifB_t (show ifB (avEq a (.agg (intL k ms))) (c r0) (.fail 96) = .val v h from q2)
      obtain rfl := avEq_sound _ _ e1
      refine ⟨.agg (intL k ms) :: fr, b, rt, r0, ns, by rw [q1]; rfl, e2, q3, q4, q5, fun L i hL ρ ρ' us hv => ?_⟩
      unfold VL at hv
      obtain ⟨u, us, rfl, h1, h2⟩ := hv
      obtain ⟨ws, rfl, h3, h4⟩ := VR_agg.1 h1
      exact @VL.cons _ (envL L) _ _ _ _ _ ((@VR_agg _ (envL L) _ _ _).2 ⟨ws, rfl, @VL_intL _ E (envL L) _ _ _ _ _ h3, h4⟩) (q6 L i hL ρ ρ' us h2)
theorem outL_val {k : IntKind} {base : Nat} {xs : SE} {v : AV} {h : H} : ∀ {m : Nat} {acc : List AV} {c : List AV → RV}, outL k base xs m acc c = .val v h → c (((List.range m).map fun j => AV.sym k (.app (base + j) xs)) ++ acc) = .val v h
  | 0, acc, c, e => e
  | m + 1, acc, c, e => by
    have e : forceN (Nat.add base m) (fun i => outL k base xs m (.sym k (.app i xs) :: acc) c) = .val v h := e
    rw [forceN_eq] at e
    have := outL_val e
    rw [List.range_succ, List.map_append, List.append_assoc]
    exact this
end
end Go.Eng
namespace Go.Eng
set_option autoImplicit false
variable [Deep]
section
variable {P : Program}
theorem rdS_val [Env] {h : H} {b off n : Nat} {k : List AV → RV} {v : AV} {h' : H} (e : rdS h b off n k = .val v h') : ∃ ro sz cs, hget h b = .live ro sz cs ∧ off + n ≤ sz ∧ k ((List.range n).map fun j => cget cs (off + j)) = .val v h' := by
  unfold rdS at e
  cases hq : hget h b with
  | dead => rw [hq] at e; exact (fail_val e).elim
  | mp es => rw [hq] at e; exact (fail_val e).elim
  | live ro sz cs =>
    rw [hq] at e
    obtain ⟨e1, e2⟩ := ifB_t (show ifB (Nat.ble (Nat.add off n) sz) (cgets cs n off k) (.fail 96) = .val v h' from e)
    rw [cgets_eq] at e2
    exact ⟨ro, sz, cs, rfl, ble_true.1 e1, e2⟩
/-- what is known of the last argument -/
def LastQ [Env] (k : IntKind) (n : Nat) (h : H) (a : AV) (r : SE) : Prop := ∃ b off cap ro sz cs, a = .slice b off n cap ∧ hget h b = .live ro sz cs ∧ off + n ≤ sz ∧ ToldL k ((List.range n).map fun j => cget cs (off + j)) r.list
theorem lastS_val [Env] {k : IntKind} {n : Nat} {h : H} (a : AV) (c : SE → RV) (v : AV) (h' : H) (e : lastS k n h a c = .val v h') : ∃ r, c r = .val v h' ∧ LastQ k n h a r := by
  rcases asSl_val (show asSl a (.fail 96) (fun b off len _ => ifB (Nat.beq len n) (rdS h b off n fun l => seL k l (.c 0) c) (.fail 96)) = .val v h' from e) with ⟨_, e⟩ | ⟨b, off, len, cap, rfl, e⟩
  · exact (fail_val e).elim
  · obtain ⟨e1, e2⟩ := ifB_t e
    obtain rfl := beq_true.1 e1
    obtain ⟨ro, sz, cs, q1, q2, q3⟩ := rdS_val e2
    obtain ⟨r, ns, q4, q5, q6⟩ := seL_val q3
    rw [se_list_c, List.append_nil] at q5
    exact ⟨r, q4, b, off, cap, ro, sz, cs, rfl, q1, q2, by rw [q5]; exact q6⟩
/-- the run that tells -/
noncomputable def toldRun (P : Program) (nat : Nats) (n : Nat) (f : FuncId) (ss : List Sh) (sk : IntKind) (sn c : Nat) : RV :=
  layRo [cellsC sk (cnt ss) sn] (h0 P) fun h => (callN P nat n).f f (frontC ss 0 ++ [.slice P.globals.size 0 sn (.kn c)]) h
noncomputable def toldIs (r : RV) (ok : IntKind) (es : List SE) : Bool := rvk r (fun v _ => avEq v (.agg (es.map (.sym ok)))) (fun _ => false)
theorem told_ok [E : Env] (hok : progOk P = true) (hsz : P.globals.size ≤ mostBlocks) {n : Nat} {f : FuncId} {ss : List Sh} {sk ok : IntKind} {sn base : Nat} {es : List SE} (hn : 0 < sn)
    (run : ∀ c, toldIs (toldRun P noNats n f ss sk sn c) ok es = true)
    (henv : ∀ j xs, j < es.length → E.f (base + j) xs = @SE.val (envL xs) (es.getD j (.c 0))) : NatOK P f (toldNat ss sk sn ok base es.length) := by
  intro args h v h' e ρ w us hr hg hf hv
  obtain ⟨fr, a, rt, r, ns, rfl, e1, ⟨b, off, cap, ro, sz, cs, rfl, g1, g2, g3⟩, e2, e3, e4⟩ := gA_val lastS_val e
  have e5 := outL_val e1
  rw [List.append_nil] at e5
  obtain ⟨rfl, rfl⟩ := RV.val.inj e5
  -- the arguments
  obtain ⟨u, hu, hru⟩ := hv.get fr.length (.slice b off sn cap) (by simp)
  obtain ⟨B, o, N, c, p, b1, rfl, b2, b3, _⟩ := VR_slice.1 hru
  have b3 : p = ⟨B, o + off, none⟩ := b3.resolve_right (by omega)
  subst b3
  have hus : us = us.take fr.length ++ [.slice (some ⟨B, o + off, none⟩) sn c] := by
    have hl := hv.length
    rw [List.length_append] at hl
    have hl : us.length = fr.length + 1 := hl
    have : us.drop fr.length = [.slice (some ⟨B, o + off, none⟩) sn c] := by
      refine List.ext_getElem? fun i => ?_
      rw [List.getElem?_drop]
      cases i with
      | zero => simpa using hu
      | succ i => rw [List.getElem?_eq_none (by omega)]; simp
    exact (List.take_append_drop fr.length us).symm.trans (congrArg (us.take fr.length ++ ·) this)
  have hvf : VL ρ fr (us.take fr.length) := by
    have := hv.take fr.length
    simpa using this
  -- the block
  have hb := hr.blk b B o N b1
  rw [g1] at hb
  obtain ⟨cc, ty, fz, r1, r2, r3, _, r5⟩ := hb
  let x : Nat → Nat × Nat × Nat := fun _ => (B, o + off, N)
  have L1 : ∀ q, q < cnt ss → r.list.getD (0 + q) 0 = ns.getD q 0 := fun q hq => by
    rw [Nat.zero_add, e2, List.getD_eq_getElem?_getD, List.getD_eq_getElem?_getD, List.getElem?_append_left (by omega)]
  have hlen : rt.list.length = sn := by rw [g3.1]; simp
  have L2 : ∀ q, q < sn → r.list.getD (cnt ss + q) 0 = rt.list.getD q 0 := fun q hq => by
    rw [e2, List.getD_eq_getElem?_getD, List.getD_eq_getElem?_getD, List.getElem?_append_right (by omega), e3, Nat.add_sub_cancel_left]
  have hvl : @VL (envL r.list) (renT P [cellsC sk (cnt ss) sn].length x) (frontC ss 0 ++ [.slice P.globals.size 0 sn (.kn c)]) us := by
    rw [hus]
    refine @VL.append _ (envL r.list) _ _ _ _ _ (e4 r.list 0 L1 ρ _ _ hvf) (@VL.cons _ (envL r.list) _ _ _ _ _ ((@VR_slice _ (envL r.list) _ _ _ _ _ _).2 ⟨B, o + off, N, c, ⟨B, o + off, none⟩, ?_, rfl, b2, .inl (by simp), rfl⟩) (@VL.nil _ (envL r.list) _))
    unfold renT
    rw [if_neg (by omega), if_pos (by simp)]
  have hbk : ∀ i l, [cellsC sk (cnt ss) sn][i]? = some l → @BR (envL r.list) (renT P [cellsC sk (cnt ss) sn].length x) (roBlk l) (x i).1 (x i).2.1 (x i).2.2 w := fun i l hl => by
    have hi : i = 0 := by
      have := (List.getElem?_eq_some_iff.1 hl).1
      simpa using this
    subst hi
    have hl : cellsC sk (cnt ss) sn = l := by simpa using hl
    subst hl
    show @BR (envL r.list) _ (roBlk (cellsC sk (cnt ss) sn)) B (o + off) N w
    refine ⟨cc, ty, fz, r1, r2, by rw [cellsC_length]; omega, (fun q => by cases q), fun i hi => ?_⟩
    rw [cellsC_length] at hi
    obtain ⟨u, s1, s2, s3⟩ := r5 (off + i) (by omega)
    refine ⟨u, by rw [Nat.add_assoc]; exact s1, ?_, s3⟩
    rw [cget_csets, if_pos (by rw [cellsC_length]; omega), Nat.sub_zero, List.getD_eq_getElem?_getD, cellsC_get hi]
    have hm : ((List.range sn).map fun j => cget cs (off + j))[i]? = some (cget cs (off + i)) := by rw [List.getElem?_map, List.getElem?_range hi]; rfl
    have hn : rt.list[i]? = some (rt.list.getD i 0) := by rw [List.getD_eq_getElem?_getD, List.getElem?_eq_getElem (by omega)]; rfl
    have := g3.2 i _ _ hm hn ρ u s2
    refine (@VR_sym _ (envL r.list) _ _ _ _).2 ?_
    rw [@se_val_v _ (envL r.list)]
    show r.list.getD (cnt ss + i) 0 < modN sk ∧ u = .int sk (sgn sk (r.list.getD (cnt ss + i) 0))
    rw [L2 i hi]
    exact this
  cases hrun : toldRun P noNats n f ss sk sn c with
  | fail y => have := run c; rw [hrun] at this; cases this
  | val v1 h1 =>
    have hv1 := run c
    rw [hrun] at hv1
    have hv1 := avEq_sound _ _ (show avEq v1 (.agg (es.map (.sym ok))) = true from hv1)
    subst hv1
    obtain ⟨c1, c2⟩ := @told_calls _ (envL r.list) P hok hsz noNats (@noNats_ok _ (envL r.list) P) n f _ _ us _ h1 w x hrun hbk hvl
    refine ⟨c1, c2.mono fun e' w' q => ?_⟩
    obtain ⟨u, ρ', he, hu, _, kept⟩ := q
    refine ⟨u, ρ, he, ?_, ?_⟩
    · obtain ⟨ws, rfl, h1, h2⟩ := (@VR_agg _ (envL r.list) _ _ _).1 hu
      refine VR_agg.2 ⟨ws, rfl, ?_, h2⟩
      have hl := @VL.length _ (envL r.list) _ _ _ h1
      refine VL.mk (by rw [hl]; simp) fun i a hi => ?_
      have hlt : i < es.length := by have := (List.getElem?_eq_some_iff.1 hi).1; simpa using this
      rw [List.getElem?_map, List.getElem?_range hlt] at hi
      cases hi
      obtain ⟨y, hy, hyr⟩ := @VL.get _ (envL r.list) _ _ _ h1 i (.sym ok es[i]) (by rw [List.getElem?_map, List.getElem?_eq_getElem hlt]; rfl)
      obtain ⟨q1, q2⟩ := (@VR_sym _ (envL r.list) _ _ _ _).1 hyr
      refine ⟨y, hy, VR_sym.2 ?_⟩
      rw [se_val_app, henv i r.list hlt, List.getD_eq_getElem?_getD, List.getElem?_eq_getElem hlt]
      exact ⟨q1, q2⟩
    · exact ⟨⟨.refl ρ, ⟨fun b B o N hb => by
          by_cases hl : lv (hget h b)
          · exact (hr.blk b B o N hb).mono (.refl ρ) (kept.2.1 B ((hr.blk b B o N hb).lt hl))
          · rw [lv_dead hl]; trivial, hr.inj, hr.dom⟩, fun b B o N hb hw => .inr ⟨b, o, N, hb, hw⟩, fun b B o N hb hl hw => ⟨hb, hl, hw⟩, kept.1, fun B hB _ => kept.2.1 B hB, kept.2.2⟩,
        fun b x hb => .inl hb, Nat.le_refl _, id, fun _ _ _ e => e, fun _ _ _ _ => rfl⟩
end
end Go.Eng
namespace Go.Eng
set_option autoImplicit false
/-- a call that is told by a run on told ints, at ints -/
noncomputable def toldNat2 [Deep] [Env] (ss : List Sh) (sk : IntKind) (sn : Nat) (ok : IntKind) (es : List SE) (args : List AV) (h : H) : RV := gA ss args (lastS sk sn h) fun xs => .val (.agg (es.map fun e => .int ok (@SE.val (envL xs.list) e))) h
section
variable {P : Program}
theorem told_ok2 (D0 : Deep) [D : Deep] [E : Env] (hok : progOk P = true) (hsz : P.globals.size ≤ @mostBlocks D0) {n : Nat} {f : FuncId} {ss : List Sh} {sk ok : IntKind} {sn : Nat} {es : List SE} (hn : 0 < sn)
    (run : ∀ c, @toldIs D0 (@toldRun D0 P (@noNats D0) n f ss sk sn c) ok es = true) : NatOK P f (toldNat2 ss sk sn ok es) := by
  intro args h v h' e ρ w us hr hg hf hv
  obtain ⟨fr, a, rt, r, ns, rfl, e1, ⟨b, off, cap, ro, sz, cs, rfl, g1, g2, g3⟩, e2, e3, e4⟩ := gA_val lastS_val e
  obtain ⟨rfl, rfl⟩ := RV.val.inj e1
  -- the arguments
  obtain ⟨u, hu, hru⟩ := hv.get fr.length (.slice b off sn cap) (by simp)
  obtain ⟨B, o, N, c, p, b1, rfl, b2, b3, _⟩ := VR_slice.1 hru
  have b3 : p = ⟨B, o + off, none⟩ := b3.resolve_right (by omega)
  subst b3
  have hus : us = us.take fr.length ++ [.slice (some ⟨B, o + off, none⟩) sn c] := by
    have hl := hv.length
    rw [List.length_append] at hl
    have hl : us.length = fr.length + 1 := hl
    have : us.drop fr.length = [.slice (some ⟨B, o + off, none⟩) sn c] := by
      refine List.ext_getElem? fun i => ?_
      rw [List.getElem?_drop]
      cases i with
      | zero => simpa using hu
      | succ i => rw [List.getElem?_eq_none (by omega)]; simp
    exact (List.take_append_drop fr.length us).symm.trans (congrArg (us.take fr.length ++ ·) this)
  have hvf : VL ρ fr (us.take fr.length) := by
    have := hv.take fr.length
    simpa using this
  -- the block
  have hb := hr.blk b B o N b1
  rw [g1] at hb
  obtain ⟨cc, ty, fz, r1, r2, r3, _, r5⟩ := hb
  let x : Nat → Nat × Nat × Nat := fun _ => (B, o + off, N)
  have L1 : ∀ q, q < cnt ss → r.list.getD (0 + q) 0 = ns.getD q 0 := fun q hq => by
    rw [Nat.zero_add, e2, List.getD_eq_getElem?_getD, List.getD_eq_getElem?_getD, List.getElem?_append_left (by omega)]
  have hlen : rt.list.length = sn := by rw [g3.1]; simp
  have L2 : ∀ q, q < sn → r.list.getD (cnt ss + q) 0 = rt.list.getD q 0 := fun q hq => by
    rw [e2, List.getD_eq_getElem?_getD, List.getD_eq_getElem?_getD, List.getElem?_append_right (by omega), e3, Nat.add_sub_cancel_left]
  have hvl : @VL (envL r.list) (renT P [cellsC sk (cnt ss) sn].length x) (frontC ss 0 ++ [.slice P.globals.size 0 sn (.kn c)]) us := by
    rw [hus]
    refine @VL.append _ (envL r.list) _ _ _ _ _ (e4 r.list 0 L1 ρ _ _ hvf) (@VL.cons _ (envL r.list) _ _ _ _ _ ((@VR_slice _ (envL r.list) _ _ _ _ _ _).2 ⟨B, o + off, N, c, ⟨B, o + off, none⟩, ?_, rfl, b2, .inl (by simp), rfl⟩) (@VL.nil _ (envL r.list) _))
    unfold renT
    rw [if_neg (by omega), if_pos (by simp)]
  have hbk : ∀ i l, [cellsC sk (cnt ss) sn][i]? = some l → @BR (envL r.list) (renT P [cellsC sk (cnt ss) sn].length x) (roBlk l) (x i).1 (x i).2.1 (x i).2.2 w := fun i l hl => by
    have hi : i = 0 := by
      have := (List.getElem?_eq_some_iff.1 hl).1
      simpa using this
    subst hi
    have hl : cellsC sk (cnt ss) sn = l := by simpa using hl
    subst hl
    show @BR (envL r.list) _ (roBlk (cellsC sk (cnt ss) sn)) B (o + off) N w
    refine ⟨cc, ty, fz, r1, r2, by rw [cellsC_length]; omega, (fun q => by cases q), fun i hi => ?_⟩
    rw [cellsC_length] at hi
    obtain ⟨u, s1, s2, s3⟩ := r5 (off + i) (by omega)
    refine ⟨u, by rw [Nat.add_assoc]; exact s1, ?_, s3⟩
    rw [cget_csets, if_pos (by rw [cellsC_length]; omega), Nat.sub_zero, List.getD_eq_getElem?_getD, cellsC_get hi]
    have hm : ((List.range sn).map fun j => cget cs (off + j))[i]? = some (cget cs (off + i)) := by rw [List.getElem?_map, List.getElem?_range hi]; rfl
    have hn : rt.list[i]? = some (rt.list.getD i 0) := by rw [List.getD_eq_getElem?_getD, List.getElem?_eq_getElem (by omega)]; rfl
    have := g3.2 i _ _ hm hn ρ u s2
    refine (@VR_sym _ (envL r.list) _ _ _ _).2 ?_
    rw [@se_val_v _ (envL r.list)]
    show r.list.getD (cnt ss + i) 0 < modN sk ∧ u = .int sk (sgn sk (r.list.getD (cnt ss + i) 0))
    rw [L2 i hi]
    exact this
  cases hrun : @toldRun D0 P (@noNats D0) n f ss sk sn c with
  | fail y => have := run c; rw [hrun] at this; cases this
  | val v1 h1 =>
    have hv1 := run c
    rw [hrun] at hv1
    have hv1 := avEq_sound _ _ (show avEq v1 (.agg (es.map (AV.sym ok))) = true from hv1)
    subst hv1
    obtain ⟨c1, c2⟩ := @told_calls D0 (envL r.list) P hok hsz (@noNats D0) (@noNats_ok D0 (envL r.list) P) n f _ _ us _ h1 w x hrun hbk hvl
    refine ⟨c1, c2.mono fun e' w' q => ?_⟩
    obtain ⟨u, ρ', he, hu, _, kept⟩ := q
    refine ⟨u, ρ, he, ?_, ?_⟩
    · obtain ⟨ws, rfl, h1, h2⟩ := (@VR_agg _ (envL r.list) _ _ _).1 hu
      refine VR_agg.2 ⟨ws, rfl, ?_, h2⟩
      have hl := @VL.length _ (envL r.list) _ _ _ h1
      refine VL.mk (by rw [hl]; simp) fun i a hi => ?_
      have hlt : i < es.length := by have := (List.getElem?_eq_some_iff.1 hi).1; simpa using this
      rw [List.getElem?_map, List.getElem?_eq_getElem hlt] at hi
      cases hi
      obtain ⟨y, hy, hyr⟩ := @VL.get _ (envL r.list) _ _ _ h1 i (.sym ok es[i]) (by rw [List.getElem?_map, List.getElem?_eq_getElem hlt]; rfl)
      obtain ⟨q1, q2⟩ := (@VR_sym _ (envL r.list) _ _ _ _).1 hyr
      exact ⟨y, hy, VR_int.2 ⟨q1, q2⟩⟩
    · exact ⟨⟨.refl ρ, ⟨fun b B o N hb => by
          by_cases hl : lv (hget h b)
          · exact (hr.blk b B o N hb).mono (.refl ρ) (kept.2.1 B ((hr.blk b B o N hb).lt hl))
          · rw [lv_dead hl]; trivial, hr.inj, hr.dom⟩, fun b B o N hb hw => .inr ⟨b, o, N, hb, hw⟩, fun b B o N hb hl hw => ⟨hb, hl, hw⟩, kept.1, fun B hB _ => kept.2.1 B hB, kept.2.2⟩,
        fun b x hb => .inl hb, Nat.le_refl _, id, fun _ _ _ e => e, fun _ _ _ _ => rfl⟩
end
end Go.Eng
