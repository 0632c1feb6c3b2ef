/- What is proved: several slices that grow side by side; bytes as texts. Conditions: none. -/
import Derived.Test.YtgccjneplchojaaGreatDoorWM
set_option linter.unusedVariables false
set_option linter.unusedSimpArgs false
set_option linter.unusedSectionVars false
namespace Go.Eng
set_option autoImplicit false
/-- an own slice grows: where it lies then, what else stays -/
theorem app_sep {s w base n m : Nat} {η : HN} {x y : AV} {l k : List AV} (hs : 0 < s) (hx : OwnA s base η x n l) (hy : RdA s η y m k) (hm : 0 < m) (hlen : (n + m) * w ≤ 140737488355328) (hb : base ≤ η.nx) :
    ∃ η', apSrcN s w x y η = .ok (.slice η.nx 0 (n + m) (.un s)) η' ∧ OwnA s base η' (.slice η.nx 0 (n + m) (.un s)) (n + m) (l ++ k) ∧ η'.nx = η.nx + 1 ∧ ∀ b, b < η.nx → ¬ blkIs x b → η'.f b = η.f b := by
  obtain ⟨b, off, cap, ro, row, rfl, h1, h2, h3, h4, h5⟩ : ∃ b off cap ro row, y = .slice b off m cap ∧ η.f b = .live ro row ∧ b < η.nx ∧ off + m * s ≤ row.length ∧ k.length = m * s ∧ (row.drop off).take (m * s) = k := by
    rcases hy with ⟨h, _⟩ | h
    · omega
    · exact h
  have hpos : 0 < m * s := Nat.mul_pos hm hs
  rw [apSrc_sl, if_neg (by omega), h1, rowN_at, if_pos h3, h5, apRow_s]
  have out : ∀ (η1 : HN), η1.nx = η.nx → (∀ b, b < η.nx → ¬ blkIs x b → η1.f b = η.f b) → OwnA s base (η1.new (.live false (l ++ k))) (.slice η.nx 0 (n + m) (.un s)) (n + m) (l ++ k) ∧ (η1.new (.live false (l ++ k))).nx = η.nx + 1 ∧ ∀ b, b < η.nx → ¬ blkIs x b → (η1.new (.live false (l ++ k))).f b = η.f b := fun η1 e1 e2 =>
    ⟨⟨by rw [List.length_append, hx.1, h4, Nat.add_mul], .inr ⟨η.nx, hb, by show η.nx < η1.nx + 1; omega, .inr ⟨rfl, by show (if η.nx = η1.nx then _ else _) = _; rw [if_pos e1.symm]⟩⟩⟩, by show η1.nx + 1 = _; omega, fun b hb hne => by show (if b = η1.nx then _ else _) = _; rw [if_neg (by omega)]; exact e2 b hb hne⟩
  obtain ⟨h0, ⟨rfl, rfl⟩ | ⟨c, hc1, hc2, ⟨rfl, rfl, row2, hr⟩ | ⟨rfl, hr⟩⟩⟩ := hx
  · obtain rfl : l = [] := List.eq_nil_of_length_eq_zero (by omega)
    rw [Nat.zero_add] at hlen
    have e : apN s w .nilslice m k η = .ok (.slice η.nx 0 (0 + m) (.un s)) (η.new (.live false ([] ++ k))) := by
      show (if m = 0 then _ else if m * w ≤ _ then _ else _) = _
      rw [if_neg (by omega), if_pos hlen, Nat.zero_add]; rfl
    exact ⟨_, e, out η rfl fun _ _ _ => rfl⟩
  · obtain rfl : l = [] := List.eq_nil_of_length_eq_zero (by omega)
    have e : apN s w (.slice c 0 0 (.kn 0)) m k η = .ok (.slice η.nx 0 (0 + m) (.un s)) (η.new (.live false ([] ++ k))) := by
      show (if (0 + m) * w ≤ _ then (if m = 0 then _ else apKn c 0 0 s m 0 k (η.f c) η) else _) = _
      rw [if_pos hlen, if_neg (by omega), apKn_new (by omega), hr, rowN_at, if_pos (by omega)]
      simp [apNewN]
    exact ⟨_, e, out η rfl fun _ _ _ => rfl⟩
  · have e : apN s w (.slice c 0 n (.un s)) m k η = .ok (.slice η.nx 0 (n + m) (.un s)) ((η.put c .none).new (.live false (l ++ k))) := by
      show (if (n + m) * w ≤ _ then (if m = 0 then _ else if s = s then apUn c 0 n s m k (η.f c) η else _) else _) = _
      rw [if_pos hlen, if_neg (by omega), if_pos rfl, hr, apUn_at, if_neg (by omega), if_pos ⟨by omega, h4⟩]
      rfl
    exact ⟨_, e, out (η.put c .none) rfl fun b _ hne => by show (if b = c then _ else _) = _; rw [if_neg (fun q => hne q.symm)]⟩
/-- an own slice, told apart by a tag from others -/
structure Grow (T : Nat → Nat) (lo : Nat) (η : HN) (t s : Nat) (x : AV) (n : Nat) (l : List AV) : Prop where
  own : OwnA s lo η x n l
  tag : ∀ b, blkIs x b → T b = t
theorem Grow.at_lt {T : Nat → Nat} {lo t s n : Nat} {η : HN} {x : AV} {l : List AV} (h : Grow T lo η t s x n l) {b : Nat} (hb : blkIs x b) : lo ≤ b ∧ b < η.nx := by
  obtain ⟨_, ⟨rfl, _⟩ | ⟨c, h1, h2, ⟨rfl, _⟩ | ⟨rfl, _⟩⟩⟩ := h.own
  · exact hb.elim
  · obtain rfl : c = b := hb; exact ⟨h1, h2⟩
  · obtain rfl : c = b := hb; exact ⟨h1, h2⟩
theorem Grow.keep {T T' : Nat → Nat} {lo t s n : Nat} {η η' : HN} {x : AV} {l : List AV} (h : Grow T lo η t s x n l) (hn : η.nx ≤ η'.nx) (hk : ∀ b, lo ≤ b → b < η.nx → T b = t → η'.f b = η.f b) (hT : ∀ b, b < η.nx → T' b = T b) : Grow T' lo η' t s x n l := by
  have at_ := fun b => h.at_lt (b := b)
  have tg := h.tag
  refine ⟨?_, fun b hb => (hT b (at_ b hb).2).trans (tg b hb)⟩
  obtain ⟨q0, q | ⟨c, q1, q2, q3 | q3⟩⟩ := h.own
  · exact ⟨q0, .inl q⟩
  · refine ⟨q0, .inr ⟨c, q1, by omega, .inl ?_⟩⟩
    rw [hk c q1 q2 (tg c (by rw [q3.1]; rfl))]; exact q3
  · refine ⟨q0, .inr ⟨c, q1, by omega, .inr ?_⟩⟩
    rw [hk c q1 q2 (tg c (by rw [q3.1]; rfl))]; exact q3
theorem Grow.nil {T : Nat → Nat} {lo t s : Nat} {η : HN} : Grow T lo η t s .nilslice 0 [] := ⟨.nil, fun _ h => h.elim⟩
def tagN (T : Nat → Nat) (c t : Nat) : Nat → Nat := fun b => if b = c then t else T b
theorem tagN_lt {T : Nat → Nat} {c t b : Nat} (h : b < c) : tagN T c t b = T b := by unfold tagN; rw [if_neg (by omega)]
section
variable {P : Program} {C : Spec} {d : Option Nat} {φ : FN}
theorem thenN_grow {T : Nat → Nat} {t s w lo n m : Nat} {η : HN} {x y : AV} {l k : List AV} {kk : FN → HN → Prop} (hs : 0 < s) (hx : Grow T lo η t s x n l) (hy : RdA s η y m k) (hm : 0 < m) (hlen : (n + m) * w ≤ 140737488355328) (hb : lo ≤ η.nx)
    (h : ∀ η', Grow (tagN T η.nx t) lo η' t s (.slice η.nx 0 (n + m) (.un s)) (n + m) (l ++ k) → η'.nx = η.nx + 1 → (∀ b, b < η.nx → T b ≠ t → η'.f b = η.f b) → (∀ b, b < lo → η'.f b = η.f b) → kk (putN d (.slice η.nx 0 (n + m) (.un s)) φ) η') : thenN C (apSrcN s w x y η) η d kk φ := by
  obtain ⟨η', e, o, hn, hk⟩ := app_sep (w := w) hs hx.own hy hm hlen hb
  rw [e]
  refine h η' ⟨o, fun b hb => ?_⟩ hn (fun b h1 h2 => hk b h1 fun q => h2 (hx.tag b q)) fun b h1 => hk b (by omega) fun q => by have := hx.at_lt q; omega
  obtain rfl : η.nx = b := hb
  unfold tagN; rw [if_pos rfl]
end
/-- cells that were just laid -/
theorem RdA.lits {s n : Nat} {η : HN} {row : List AV} {c : Cp} (h : row.length = n * s) : RdA s (η.new (.live false row)) (.slice η.nx 0 n c) n row := .inr ⟨η.nx, 0, c, false, row, rfl, by show (if η.nx = η.nx then _ else _) = _; rw [if_pos rfl], Nat.lt_succ_self _, by omega, h, by rw [List.drop_zero, List.take_of_length_le (by omega)]⟩
/-! ## Bytes as texts -/
def bV : List Nat → Nat
  | [] => 0
  | a :: l => a + 256 * bV l
theorem bytesN_bV : ∀ l : List Nat, bytesN (u8s l) = some (bV l)
  | [] => rfl
  | a :: l => by
    show (match bytesN (u8s l) with | some m => some (a + 256 * m) | none => none) = _
    rw [bytesN_bV l]; rfl
theorem bV_inj : ∀ {l k : List Nat}, l.length = k.length → (∀ x ∈ l, x < 256) → (∀ x ∈ k, x < 256) → bV l = bV k → l = k
  | [], [], _, _, _, _ => rfl
  | [], _ :: _, h, _, _, _ => by cases h
  | _ :: _, [], h, _, _, _ => by cases h
  | a :: l, b :: k, h, hl, hk, e => by
    have e : a + 256 * bV l = b + 256 * bV k := e
    have la := hl a (by simp)
    have lb := hk b (by simp)
    have : a = b := by omega
    rw [this, bV_inj (by simpa using h) (fun x hx => hl x (List.mem_cons_of_mem _ hx)) (fun x hx => hk x (List.mem_cons_of_mem _ hx)) (by omega)]
theorem str_of {P : Program} {η : HN} {y : AV} {l : List Nat} {e s w : Nat} (h : RdA 1 η y l.length (u8s l)) (hl : l ≠ []) (hP : isU8D (tdOf P e) = true) : cvN' P (.slice e s w) .str y η = .ok (.str l.length (bV l)) η := by
  rcases h with ⟨h0, _⟩ | ⟨b, off, cap, ro, row, rfl, h1, h2, h3, h4, h5⟩
  · exact absurd (List.eq_nil_of_length_eq_zero h0) hl
  · rw [cvN_b2s, if_pos hP, h1, rowN_at, if_pos (by omega), strR_s]
    rw [Nat.mul_one] at h5
    rw [h5, bytesN_bV]; rfl
end Go.Eng
namespace Go.Eng
set_option autoImplicit false
/-- the blocks that came in, by their lists; the first variable of the program reads as a row -/
noncomputable def startG (P : Program) (row : List AV) (bs : List (List AV)) : HN := ⟨P.globals.size + bs.length + 1, fun b => if b = 0 then .live true row else if P.globals.size ≤ b ∧ b < P.globals.size + bs.length then .live true (bs.getD (b - P.globals.size) []) else .none⟩
noncomputable def hG [Deep] (P : Program) (row : List AV) : H := ⟨P.globals.size, trSet Deep.d 0 (trNew Blk .dead Deep.d) (roBlk row)⟩
theorem hget_hG [Deep] {P : Program} {row : List AV} (b : Nat) (hb : b < mostBlocks) : hget (hG P row) b = if b = 0 then roBlk row else .dead := by
  show trGet Deep.d b (trSet Deep.d 0 (trNew Blk .dead Deep.d) (roBlk row)) = _
  rw [trGet_set Deep.d 0 b _ _ (Nat.lt_of_le_of_lt (Nat.zero_le b) hb) hb]
  split
  · rfl
  · exact trGet_new Deep.d b Blk.dead
theorem law_callsG {P : Program} (hp : 0 < P.globals.size) (hok : progOk P = true) {nat : ∀ [Deep], Nats} (hnat : ∀ [Deep], @NatsOK _ noEnv P nat) {f : FuncId} {args : List AV} {us : List Value} {bs : List (List AV)} {row : List AV} {v : AV} {η' : HN} (e : CallN P nat f args (startG P row bs) v η')
    {w : World} {x : Nat → Nat × Nat × Nat} (hrow : @BR noEnv (renS P bs.length x) (roBlk row) 0 0 (x bs.length).2.2 w) (hb : ∀ i l, bs[i]? = some l → @BR noEnv (renS P bs.length x) (roBlk l) (x i).1 (x i).2.1 (x i).2.2 w) (hv : @VL noEnv (renS P bs.length x) args us) :
    Calls P f ⟨us⟩ w fun e w' => ∃ u ρ', e = .returned u ∧ @VR noEnv ρ' v u ∧ Kept w w' := by
  obtain ⟨k0, e⟩ := e
  let D : Deep := ⟨max k0 (P.globals.size + bs.length) + 1, k0⟩
  letI : Deep := D
  letI : Env := noEnv
  have hlt : P.globals.size + bs.length + 1 < mostBlocks + 1 := by have := lt_most (show P.globals.size + bs.length < max k0 (P.globals.size + bs.length) + 1 by omega); omega
  obtain ⟨h1, _, e2, e3⟩ := layRo_eq bs (hG P row) (by show P.globals.size + bs.length ≤ mostBlocks; omega)
  have e2 : h1.nx = P.globals.size + bs.length := e2
  have e4 : ∀ b, b < mostBlocks → hget ⟨h1.nx + 1, h1.m⟩ b = if b = 0 then roBlk row else if P.globals.size ≤ b ∧ b < P.globals.size + bs.length then roBlk (bs.getD (b - P.globals.size) []) else .dead := fun b hb => by
    rw [hget_nx]
    rw [e3 b hb, hget_hG b hb]
    by_cases q : b = 0
    · rw [if_pos q, if_neg (by show ¬ (P.globals.size ≤ b ∧ _); omega), if_pos q]
    · rw [if_neg q, if_neg q]; rfl
  have repR : ∀ l : List AV, RepB (roBlk l) (.live true l) := fun l => ⟨_, rfl, fun i hi => by rw [cget_csets, if_pos ⟨by omega, by omega⟩, Nat.sub_zero]⟩
  have r : Rep ⟨h1.nx + 1, h1.m⟩ (startG P row bs) := by
    refine ⟨by show h1.nx + 1 = _; rw [e2]; rfl, fun b hb => ?_⟩
    rw [e4 b hb]
    show RepB _ (if b = 0 then _ else if P.globals.size ≤ b ∧ b < P.globals.size + bs.length then _ else _)
    split
    · exact repR _
    · split
      · exact repR _
      · trivial
  obtain ⟨h', a, _⟩ := e (show k0 ≤ max k0 (P.globals.size + bs.length) + 1 by omega) (Nat.le_refl k0) k0 (Nat.le_refl k0) _ r
  have hm : P.follows .mixedOrders = true := hok
  have mem : ∀ b y, renS P bs.length x b = some y → b < P.globals.size + bs.length + 1 ∧ (P.globals.size ≤ b ∧ b < P.globals.size + bs.length → y = x (b - P.globals.size)) ∧ (b = 0 → y = (0, 0, (x bs.length).2.2)) := fun b y hy => by
    unfold renS at hy
    split at hy
    · exact ⟨by omega, fun h => by omega, fun h => by subst h; cases hy; rfl⟩
    · split at hy
      · cases hy; exact ⟨by omega, fun _ => rfl, fun h => by omega⟩
      · split at hy
        · exact ⟨by omega, fun h => by omega, fun h => by omega⟩
        · cases hy
  have nw : ∀ b, b < mostBlocks → ¬ wl (hget ⟨h1.nx + 1, h1.m⟩ b) := fun b hb hw => by
    rw [e4 b hb] at hw
    split at hw
    · exact hw
    · split at hw
      · exact hw
      · exact hw
  have hr : HR (renS P bs.length x) ⟨h1.nx + 1, h1.m⟩ w := by
    refine ⟨fun b B o N hy => ?_, fun b b' B o N o' N' hy hy' l l' => (nw b (by have := (mem b _ hy).1; omega) l).elim, fun b y hy => by have := (mem b y hy).1; omega⟩
    obtain ⟨q1, q2, q3⟩ := mem b _ hy
    rw [e4 b (by omega)]
    split
    · rename_i c
      have q3 := q3 c
      cases q3
      exact hrow
    · split
      · rename_i c
        have q2 := q2 c
        obtain ⟨l, hl⟩ : ∃ l, bs[b - P.globals.size]? = some l := ⟨_, List.getElem?_eq_getElem (by omega)⟩
        have := hb _ l hl
        rw [← q2] at this
        rw [List.getD_eq_getElem?_getD, hl]
        exact this
      · trivial
  have hg : GR P (renS P bs.length x) := fun g hg => ⟨_, if_pos hg⟩
  have hf : Fresh (renS P bs.length x) ⟨h1.nx + 1, h1.m⟩ := ⟨fun b hb => by have hb : h1.nx + 1 ≤ b := hb; unfold renS; rw [if_neg (by omega), if_neg (by omega), if_neg (by omega)], fun b hb hm => by have hb : h1.nx + 1 ≤ b := hb; rw [e4 b hm, if_neg (by omega), if_neg (by omega)]⟩
  refine (callN_ok (draws_ok hm) hnat k0 f args _ v h' a _ w us hr hg hf hv).2.mono fun e' w' q => ?_
  obtain ⟨u, ρ', he, hu, st⟩ := q
  exact ⟨u, ρ', he, hu, st.size, fun B hB => st.keep B hB fun b o N hy hw => nw b (by have := (mem b _ hy).1; omega) hw, st.still⟩
theorem LayC.doneG {P : Program} {w : World} {vs : List Value} {R : HN → List AV → Prop} (h : LayC P w vs R) (N : Nat) : ∃ (bs : List (List AV)) (x : Nat → Nat × Nat × Nat) (zs : List AV),
    (∀ i l, bs[i]? = some l → @BR noEnv (renS P bs.length x) (roBlk l) (x i).1 (x i).2.1 (x i).2.2 w) ∧ @VL noEnv (renS P bs.length x) zs vs ∧ R (startH P bs) zs ∧ (x bs.length).2.2 = N := by
  obtain ⟨xs, h⟩ := h
  obtain ⟨bs, zs, e, h⟩ := h 0 xs.length
  obtain ⟨h1, h2, h3⟩ := h bs (fun i => if i < xs.length then xs.getD i (0, 0, 0) else (0, 0, N)) e (fun i hi => by rw [Nat.zero_add]; exact ⟨rfl, if_pos hi⟩) (by omega)
  have hlt : ∀ i l, bs[i]? = some l → (if i < xs.length then xs.getD i (0, 0, 0) else (0, 0, N)) = xs.getD i (0, 0, 0) := fun i l hi => if_pos (by rw [← e]; exact (List.getElem?_eq_some_iff.1 hi).1)
  have hN : (if bs.length < xs.length then xs.getD bs.length (0, 0, 0) else (0, 0, N)) = (0, 0, N) := if_neg (by omega)
  rw [← e] at h1 h2 hlt hN
  exact ⟨bs, fun i => if i < bs.length then xs.getD i (0, 0, 0) else (0, 0, N), zs, fun i l hi => by
    have := h2 i l hi
    rw [← hlt i l hi] at this
    exact this, h1, h3, congrArg (fun q => q.2.2) hN⟩
/-- what lies in one heap lies in the other -/
def Sub (η η' : HN) : Prop := η.nx ≤ η'.nx ∧ ∀ b ro row, η.f b = .live ro row → η'.f b = .live ro row
theorem sub_startG {P : Program} (hp : 0 < P.globals.size) {row : List AV} {bs : List (List AV)} : Sub (startH P bs) (startG P row bs) := by
  refine ⟨Nat.le_refl _, fun b ro r h => ?_⟩
  have h : (if P.globals.size ≤ b ∧ b < P.globals.size + bs.length then BN.live true (bs.getD (b - P.globals.size) []) else .none) = .live ro r := h
  show (if b = 0 then _ else if P.globals.size ≤ b ∧ b < P.globals.size + bs.length then _ else _) = _
  by_cases q : P.globals.size ≤ b ∧ b < P.globals.size + bs.length
  · rw [if_neg (by omega), ← h]
  · rw [if_neg q] at h; cases h
theorem RdR.sub {s : Nat} {η η' : HN} {y : AV} {ls : List (List AV)} (h : RdR s η y ls) (e : Sub η η') : RdR s η' y ls := by
  rcases h with h | ⟨b, off, cap, ro, row, h1, h2, h3, h4⟩
  · exact .inl h
  · exact .inr ⟨b, off, cap, ro, row, h1, e.2 _ _ _ h2, by have := e.1; omega, h4⟩
end Go.Eng
namespace Go.Eng
set_option autoImplicit false
theorem HV.eqR {g g' : ∀ [Deep], H → RV} {η η' : HN} {v : AV} (e : ∀ [Deep] (h : H), h.nx = η.nx → g h = g' h) (k : HV g' η v η') : HV g η v η' := by
  obtain ⟨k0, k⟩ := k
  exact ⟨k0, fun hd h r => let ⟨h', a, b⟩ := k hd h r; ⟨h', (e h r.nx).trans a, b⟩⟩
theorem HV.newK {k : ∀ [Deep], Nat → H → RV} {η η' : HN} {l : List AV} {v : AV} (e : HV (fun h => k η.nx h) (η.new (.live false l)) v η') : HV (fun h => newBlk h l k) η v η' := by
  obtain ⟨k0, e⟩ := e
  refine ⟨max k0 (η.nx + 1), fun hd h r => ?_⟩
  have hm : η.nx < mostBlocks := lt_most' (show η.nx < max k0 (η.nx + 1) by omega) hd
  obtain ⟨h', e1, e2⟩ := e (by omega) _ (r.new hm (RepB_new l))
  refine ⟨h', ?_, e2⟩
  show newBlk h l k = _
  rw [newBlk_eq (by rw [r.nx]; exact hm)]
  have e1 : k η.nx ⟨h.nx + 1, trSet Deep.d h.nx h.m (blkOf l)⟩ = RV.val v h' := e1
  rw [← r.nx] at e1
  exact e1
/-- blocks, laid one behind the other -/
def layH : List (List AV) → HN → HN
  | [], η => η
  | l :: ls, η => layH ls (η.new (.live false l))
theorem layH_nx : ∀ (ls : List (List AV)) (η : HN), (layH ls η).nx = η.nx + ls.length
  | [], _ => rfl
  | l :: ls, η => by
    show (layH ls (η.new _)).nx = _
    rw [layH_nx ls]
    show η.nx + 1 + ls.length = _
    rw [List.length_cons]; omega
theorem layH_old : ∀ (ls : List (List AV)) (η : HN) (b : Nat), b < η.nx → (layH ls η).f b = η.f b
  | [], _, _, _ => rfl
  | l :: ls, η, b, h => by
    show (layH ls (η.new _)).f b = _
    rw [layH_old ls _ b (by show b < η.nx + 1; omega)]
    show (if b = η.nx then _ else _) = _
    rw [if_neg (by omega)]
theorem layH_at : ∀ (ls : List (List AV)) (η : HN) (i : Nat) (l : List AV), ls[i]? = some l → (layH ls η).f (i + η.nx) = .live false l
  | [], _, _, _, h => by simp at h
  | a :: ls, η, 0, l, h => by
    obtain rfl : a = l := by simpa using h
    show (layH ls (η.new _)).f (0 + η.nx) = _
    rw [layH_old ls _ _ (by show 0 + η.nx < η.nx + 1; omega)]
    show (if 0 + η.nx = η.nx then _ else _) = _
    rw [if_pos (by omega)]
  | a :: ls, η, i + 1, l, h => by
    have := layH_at ls (η.new (.live false a)) i l (by simpa using h)
    rw [← this]
    show (layH ls _).f (i + 1 + η.nx) = (layH ls _).f (i + (η.nx + 1))
    congr 1; omega
theorem layH_ext (ls : List (List AV)) (η : HN) : ExtB η.nx η (layH ls η) := ⟨by rw [layH_nx]; omega, fun b hb => layH_old ls η b hb⟩
theorem HV.layAll {σ : Nat → Nat} : ∀ (bs : List (List AV)) {k : ∀ [Deep], H → RV} {η η' : HN} {v : AV}, HV (fun h => k h) (layH (bs.map (mvL σ)) η) v η' → HV (fun h => Eng.layAll σ bs h fun h => k h) η v η'
  | [], _, _, _, _, e => e
  | l :: bs, k, η, η', v, e => by
    have := HV.newK (k := fun _ h => Eng.layAll σ bs h fun h => k h) (l := mvL σ l) (η := η) (HV.layAll bs e)
    refine HV.eq (fun h => ?_) this
    show forceL (mvL σ l) (fun l => newBlk h l fun _ h => Eng.layAll σ bs h fun h => k h) = _
    rw [forceL_eq]
theorem HV.known (e : Known) {η : HN} : HV (fun h => knownOne e h) η (mvA (fun i => Nat.add i η.nx) e.v) (layH (e.bs.map (mvL fun i => Nat.add i η.nx)) η) := by
  refine HV.eqR (g' := fun h => Eng.layAll (fun i => Nat.add i η.nx) e.bs h fun h' => mkV (mvA (fun i => Nat.add i η.nx) e.v) h') (fun h hn => ?_) (HV.layAll e.bs (HV.pure fun h => ?_))
  · show forceN h.nx (fun nx => Eng.layAll (fun i => Nat.add i nx) e.bs h fun h' => mkV (mvA (fun i => Nat.add i nx) e.v) h') = _
    rw [forceN_eq, hn]
  · exact mkV_eq _ _
/-- which call it is -/
noncomputable def knownAt (t : List Known) (args : List AV) : Option Known := List.rec (motive := fun _ => Option Known) none (fun e _ ih => ifB (avEq (.agg args) (.agg e.args)) (some e) ih) t
theorem knownAt_eq [Deep] {args : List AV} {e : Known} (h : H) : ∀ t : List Known, knownAt t args = some e → knownNat t args h = knownOne e h
  | [], q => by cases q
  | a :: t, q => by
    have q : ifB (avEq (.agg args) (.agg a.args)) (some a) (knownAt t args) = some e := q
    show ifB (avEq (.agg args) (.agg a.args)) (knownOne a h) (knownNat t args h) = _
    cases hq : avEq (.agg args) (.agg a.args) with
    | false => rw [hq] at q; exact knownAt_eq h t q
    | true => rw [hq] at q; cases q; rfl
theorem callN_known {P : Program} {nat : ∀ [Deep], Nats} {f : FuncId} {t : List Known} {args : List AV} {e : Known} {η : HN} (hn : ∀ [Deep], nat f = some (knownNat t)) (he : knownAt t args = some e) :
    CallN P nat f args η (mvA (fun i => Nat.add i η.nx) e.v) (layH (e.bs.map (mvL fun i => Nat.add i η.nx)) η) :=
  callN_nat (g := fun args h => knownNat t args h) hn (HV.eq (fun h => knownAt_eq h t he) (HV.known e))
end Go.Eng
