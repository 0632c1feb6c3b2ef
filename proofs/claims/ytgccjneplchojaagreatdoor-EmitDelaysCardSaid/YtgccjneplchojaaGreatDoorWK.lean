/- What is proved: slices of slices of bytes that come into a law; that what is read there is read again. Conditions: none. -/
import Derived.Test.YtgccjneplchojaaGreatDoorWJ
import Derived.WideKeyArgs
import Derived.Deep.Matrix
set_option linter.unusedVariables false
set_option linter.unusedSimpArgs false
set_option linter.unusedSectionVars false
namespace Go.Eng
set_option autoImplicit false
open Go.ChangeShapes Go.WideShapes
section
variable {H : Type} {enc : TypeId × Value → H} {P : Program} {w : World}
/-- what came in reads as it did -/
theorem trod_keep (hl : laidOutB P = true) {t : TypeId} (hr : P.readableRec t = true) (hrow : t < P.types.size) {w' : World} {sp : Nat → Bool} {v : Value} {d : DataW H} {ps : List MemPlace} (h : DataW.Trod enc P w 0 (fun _ => true) true t v d ps) (hk : Kept w w')
    (hs : ∀ p ∈ ps, sp p.block = true) : DataW.Trod enc P w' 0 sp true t v d ps := by
  refine Go.WideElems.Trod_stays hl hr hrow h (fun p hp => ?_) hs
  obtain ⟨n, hn⟩ := h
  have hlt := DataW.trod_lt n _ _ _ hn p hp
  cases p with
  | cell b off =>
    show w'.cell? ⟨b, off, none⟩ = w.cell? ⟨b, off, none⟩
    unfold World.cell?
    dsimp only
    rw [hk.2.1 b hlt]
  | map b => exact hk.2.1 b hlt
end
theorem arg_lay2 (P : Program) {w : World} {u : Value} {l : List Nat} (h : ArgV w u l) : ∃ bs xs, Lay w bs xs ∧ ∀ (pre : List (List AV)) (xpre : List (Nat × Nat × Nat)) (np : Nat), pre.length = xpre.length →
    ∃ z, ∀ (post : List (List AV)) (xpost : List (Nat × Nat × Nat)), post.length = np → @VR noEnv (renS P (pre ++ bs ++ post).length fun i => (xpre ++ xs ++ xpost).getD i (0, 0, 0)) z u ∧ ArgB (startH P (pre ++ bs ++ post)) z l := by
  rcases h with ⟨rfl, rfl⟩ | ⟨a, rfl, rfl⟩ | ⟨B, o, N, c, hs⟩
  · exact ⟨[], [], .nil, fun pre xpre np _ => ⟨.nilslice, fun post xpost _ => ⟨vr_nil, .inl ⟨rfl, .inl rfl⟩⟩⟩⟩
  · exact ⟨[], [], .nil, fun pre xpre np _ => ⟨.slice (P.globals.size + (pre.length + np)) 0 0 (.kn 0), fun post xpost hp => ⟨by rw [show pre.length + np = (pre ++ [] ++ post).length by simp; omega]; exact vr_zero, .inl ⟨rfl, .inr ⟨_, _, _, rfl⟩⟩⟩⟩⟩
  · refine ⟨[u8s l], [(B, o, N)], ⟨rfl, fun i k hi ρ => ?_⟩, fun pre xpre np hl => ⟨.slice (P.globals.size + pre.length) 0 l.length (.kn c), fun post xpost _ => ⟨hs.vr (by simp) ?_, .inr ⟨_, c, rfl, hs.cap, ?_, ?_⟩⟩⟩⟩
    · cases i with
      | zero => simp at hi; subst hi; exact hs.br ρ
      | succ i => simp at hi
    · rw [List.append_assoc, List.getD_eq_getElem?_getD, List.getElem?_append_right (by omega), hl, Nat.sub_self]; rfl
    · show (if P.globals.size ≤ P.globals.size + pre.length ∧ P.globals.size + pre.length < P.globals.size + (pre ++ [u8s l] ++ post).length then _ else _) = _
      rw [if_pos (by simp), List.append_assoc, List.getD_eq_getElem?_getD, List.getElem?_append_right (by omega), Nat.add_sub_cancel_left, Nat.sub_self]; rfl
    · show P.globals.size + pre.length < P.globals.size + (pre ++ [u8s l] ++ post).length + 1
      simp; omega
theorem rows_lay (P : Program) {w : World} : ∀ (ls : List (List Nat)) (U : Nat → Value), (∀ i (h : i < ls.length), ArgV w (U i) ls[i]) → ∃ bs xs, Lay w bs xs ∧ ∀ (pre : List (List AV)) (xpre : List (Nat × Nat × Nat)) (np : Nat), pre.length = xpre.length →
    ∃ zs : List AV, zs.length = ls.length ∧ ∀ (post : List (List AV)) (xpost : List (Nat × Nat × Nat)), post.length = np → ∀ i (h : i < ls.length), ∃ y, zs[i]? = some y ∧ @VR noEnv (renS P (pre ++ bs ++ post).length fun i => (xpre ++ xs ++ xpost).getD i (0, 0, 0)) y (U i) ∧ ArgB (startH P (pre ++ bs ++ post)) y ls[i]
  | [], U, _ => ⟨[], [], .nil, fun pre xpre np _ => ⟨[], rfl, fun post xpost _ i h => absurd h (Nat.not_lt_zero i)⟩⟩
  | l :: ls, U, hU => by
    obtain ⟨b1, x1, L1, k1⟩ := arg_lay2 P (hU 0 (Nat.zero_lt_succ _))
    obtain ⟨b2, x2, L2, k2⟩ := rows_lay P ls (fun i => U (i + 1)) fun i h => hU (i + 1) (Nat.succ_lt_succ h)
    refine ⟨b1 ++ b2, x1 ++ x2, L1.app L2, fun pre xpre np hl => ?_⟩
    obtain ⟨z, hz⟩ := k1 pre xpre (b2.length + np) hl
    obtain ⟨zs, hn, hzs⟩ := k2 (pre ++ b1) (xpre ++ x1) np (by rw [List.length_append, List.length_append, hl, L1.len])
    refine ⟨z :: zs, by rw [List.length_cons, List.length_cons, hn], fun post xpost hp i h => ?_⟩
    cases i with
    | zero =>
      obtain ⟨q1, q2⟩ := hz (b2 ++ post) (x2 ++ xpost) (by rw [List.length_append, hp])
      refine ⟨z, rfl, ?_, ?_⟩
      · simpa only [List.append_assoc] using q1
      · simpa only [List.append_assoc] using q2
    | succ i =>
      obtain ⟨y, q0, q1, q2⟩ := hzs post xpost hp i (Nat.lt_of_succ_lt_succ h)
      refine ⟨y, q0, ?_, ?_⟩
      · simpa only [List.append_assoc] using q1
      · rw [List.getElem_cons_succ]; simpa only [List.append_assoc] using q2
/-- slices of bytes that came in -/
def ArgR (η : HN) (z : AV) (ls : List (List Nat)) : Prop := (ls = [] ∧ (z = .nilslice ∨ ∃ b off cap, z = .slice b off 0 cap)) ∨
  ∃ b c zs, z = .slice b 0 ls.length (.kn c) ∧ ls.length ≤ c ∧ η.f b = .live true zs ∧ b < η.nx ∧ zs.length = ls.length ∧ ∀ i (h : i < ls.length), ∃ y, zs[i]? = some y ∧ ArgB η y ls[i]
theorem ArgR.len {η η' : HN} {z : AV} {ls : List (List Nat)} {e y : Nat} (h : ArgR η z ls) (hl : ls.length ≤ 9223372036854775807) : lenN (.slice e 1 y) z η' = .ok (.int .i64 ls.length) η' := by
  rcases h with ⟨rfl, rfl | ⟨b, off, cap, rfl⟩⟩ | ⟨b, c, zs, rfl, h2, _⟩
  · rfl
  · rfl
  · rw [lenN_sl, lenI_at, if_pos hl]
/-- slices of bytes in the world -/
def ArgVR (w : World) (u : Value) (ls : List (List Nat)) : Prop := (u = .slice none 0 0 ∧ ls = []) ∨ (∃ a, u = .slice (some a) 0 0 ∧ ls = []) ∨
  ∃ (B o c : Nat) (cs : Array Value) (e : TypeId) (fz : Nat × Nat) (U : Nat → Value), u = .slice (some ⟨B, o, none⟩) ls.length c ∧ ls.length ≤ c ∧ w.heap[B]? = some (.cells cs e fz) ∧ o + ls.length ≤ cs.size ∧
    ∀ i (h : i < ls.length), cs[o + i]? = some (U i) ∧ (U i).oneCell' = true ∧ ArgV w (U i) ls[i]
theorem rows_arg (P : Program) {w : World} {u : Value} {ls : List (List Nat)} (h : ArgVR w u ls) : ∃ (bs : List (List AV)) (x : Nat → Nat × Nat × Nat) (z : AV),
    (∀ i l, bs[i]? = some l → @BR noEnv (renS P bs.length x) (roBlk l) (x i).1 (x i).2.1 (x i).2.2 w) ∧ @VR noEnv (renS P bs.length x) z u ∧ ArgR (startH P bs) z ls := by
  rcases h with ⟨rfl, rfl⟩ | ⟨a, rfl, rfl⟩ | ⟨B, o, c, cs, e, fz, U, rfl, hc, hB, ho, hU⟩
  · exact ⟨[], fun _ => (0, 0, 0), .nilslice, fun i l hi => by simp at hi, vr_nil, .inl ⟨rfl, .inl rfl⟩⟩
  · exact ⟨[], fun _ => (0, 0, 0), _, fun i l hi => by simp at hi, vr_zero, .inl ⟨rfl, .inr ⟨_, _, _, rfl⟩⟩⟩
  · obtain ⟨bs, xs, L, k⟩ := rows_lay P ls U fun i h => (hU i h).2.2
    obtain ⟨zs, hn, hz⟩ := k [] [] 1 rfl
    have hz := hz [zs] [(B, o, cs.size)] rfl
    simp only [List.nil_append] at hz
    refine ⟨bs ++ [zs], fun i => (xs ++ [(B, o, cs.size)]).getD i (0, 0, 0), .slice (P.globals.size + bs.length) 0 ls.length (.kn c), fun i l hi => ?_, ?_, .inr ⟨_, c, zs, rfl, hc, ?_, ?_, hn, fun i h => ?_⟩⟩
    · by_cases hb : i < bs.length
      · rw [List.getElem?_append_left hb] at hi
        have := L.br i l hi (renS P (bs ++ [zs]).length fun i => (xs ++ [(B, o, cs.size)]).getD i (0, 0, 0))
        dsimp only
        rw [show (xs ++ [(B, o, cs.size)]).getD i (0, 0, 0) = xs.getD i (0, 0, 0) by rw [List.getD_eq_getElem?_getD, List.getElem?_append_left (by rw [← L.len]; exact hb), List.getD_eq_getElem?_getD]]
        exact this
      · rw [List.getElem?_append_right (by omega)] at hi
        obtain rfl : i = bs.length := by
          have := (List.getElem?_eq_some_iff.1 hi).1
          simp at this; omega
        rw [Nat.sub_self] at hi
        simp at hi
        subst hi
        dsimp only
        rw [show (xs ++ [(B, o, cs.size)]).getD bs.length (0, 0, 0) = (B, o, cs.size) by rw [List.getD_eq_getElem?_getD, List.getElem?_append_right (by rw [L.len]; exact Nat.le_refl _), ← L.len, Nat.sub_self]; rfl]
        letI : Env := noEnv
        letI : Deep := ⟨0, 0⟩
        refine ⟨cs, e, fz, hB, rfl, by rw [hn]; exact ho, nofun, fun i hi => ?_⟩
        rw [hn] at hi
        obtain ⟨y, q0, q1, _⟩ := hz i hi
        obtain ⟨r1, r2, _⟩ := hU i hi
        refine ⟨U i, r1, ?_, r2⟩
        rw [cget_csets, if_pos ⟨by omega, by omega⟩, Nat.sub_zero, List.getD_eq_getElem?_getD, q0]
        exact q1
    · letI : Env := noEnv
      letI : Deep := ⟨0, 0⟩
      refine VR_slice.2 ⟨B, o, cs.size, c, ⟨B, o, none⟩, ?_, rfl, hc, .inl rfl, rfl⟩
      unfold renS
      rw [if_neg (by omega), if_pos (by simp), Nat.add_sub_cancel_left]
      dsimp only
      rw [List.getD_eq_getElem?_getD, List.getElem?_append_right (by rw [L.len]; exact Nat.le_refl _), ← L.len, Nat.sub_self]; rfl
    · show (if P.globals.size ≤ P.globals.size + bs.length ∧ P.globals.size + bs.length < P.globals.size + (bs ++ [zs]).length then _ else _) = _
      rw [if_pos (by simp), List.getD_eq_getElem?_getD, List.getElem?_append_right (by omega), Nat.add_sub_cancel_left, Nat.sub_self]; rfl
    · show P.globals.size + bs.length < P.globals.size + (bs ++ [zs]).length + 1
      simp; omega
    · obtain ⟨y, q0, _, q2⟩ := hz i h
      exact ⟨y, q0, q2⟩
section
variable {H : Type} {enc : TypeId × Value → H} {P : Program} {w : World}
/-- slices of bytes: what they are -/
theorem open_rows {t e q : TypeId} {base : Nat} {v : Value} {d : DataW H} {p : List MemPlace} (ht : P.underlying t = some (.slice e)) (he : P.underlying e = some (.slice q)) (hq : P.underlying q = some (.int .u8)) (ce : P.cellsOf e = 1) (cq : P.cellsOf q = 1)
    (hval : Value.okWide P w .any base t v) (h : DataW.Trod enc P w 0 (fun _ => true) true t v d p) : ∃ ls, ArgVR w v ls ∧ ls.length ≤ 9223372036854775807 ∧ ∀ l ∈ ls, l.length ≤ 9223372036854775807 := by
  obtain ⟨a0, len0, cap0, rfl⟩ := okWide_slice ht hval
  obtain ⟨fuel, hf⟩ := h
  rcases Go.Deep.open_int_rows ht he hq ce cq hf with ⟨hcs, _⟩ | ⟨a, len, cap, A, L, C, Z, hcs, _, hl, hm, _, hr⟩
  · simp [Value.cells] at hcs
    obtain ⟨rfl, rfl, rfl⟩ := hcs
    exact ⟨[], .inl ⟨rfl, rfl⟩, by simp, by simp⟩
  · simp [Value.cells] at hcs
    obtain ⟨rfl, rfl, rfl⟩ := hcs
    unfold maxLen at hm
    refine ⟨(List.range len0).map fun r => natsI ((Z r).take (L r)), ?_, by simp; omega, fun l hl' => ?_⟩
    · by_cases h0 : cap0 = 0
      · subst h0
        obtain rfl : len0 = 0 := by omega
        exact .inr (.inl ⟨a, rfl, rfl⟩)
      · refine .inr (.inr ?_)
        obtain ⟨B, o, sp⟩ := a
        have hc0 := (hr 0 (by omega)).1
        have hsp : sp = none := by
          cases sp with
          | none => rfl
          | some s =>
            exfalso
            unfold World.cell? Addr.add at hc0
            split at hc0
            · simp at hc0
            · cases hc0
        subst hsp
        have hcell' : ∀ i, i < cap0 → w.cell? ⟨B, o + i, none⟩ = some (.slice (A i) (L i) (C i)) := fun i hi => by rw [← @Addr.add_none ⟨0, 0⟩ noEnv]; exact (hr i hi).1
        have hblk : ∃ cs e fz, w.heap[B]? = some (.cells cs e fz) := by
          have := hcell' 0 (by omega)
          unfold World.cell? at this
          dsimp only at this
          split at this
          · rename_i c e fz hh; exact ⟨c, e, fz, hh⟩
          · cases this
        obtain ⟨cs, e', fz, hB⟩ := hblk
        have hg : ∀ i, i < cap0 → cs[o + i]? = some (.slice (A i) (L i) (C i)) := fun i hi => by
          have := hcell' i hi
          unfold World.cell? at this
          rw [hB] at this
          simpa using this
        have hsz := (Array.getElem?_eq_some_iff.1 (hg (cap0 - 1) (by omega))).1
        refine ⟨B, o, cap0, cs, e', fz, fun i => .slice (A i) (L i) (C i), by simp, by simp; exact hl, hB, by simp; omega, fun i hi => ?_⟩
        have hi : i < len0 := by simpa using hi
        obtain ⟨r1, r2, r3, r4, r5, r6, r7⟩ := hr i (by omega)
        refine ⟨hg i (by omega), rfl, ?_⟩
        have e1 : ((List.range len0).map fun r => natsI ((Z r).take (L r)))[i]'(by simpa using hi) = natsI ((Z i).take (L i)) := by simp
        rw [e1]
        dsimp only
        cases hA : A i with
        | none =>
          have hc := r6 hA
          obtain hL : L i = 0 := by omega
          rw [hc, hL]
          exact .inl ⟨rfl, rfl⟩
        | some a' => exact argV_of r2 r4 (fun c hc => (r7 a' hA).2 c (by rw [← r4]; exact hc)) r5
    · simp only [List.mem_map, List.mem_range] at hl'
      obtain ⟨r, hr', rfl⟩ := hl'
      obtain ⟨r1, r2, r3, r4, _⟩ := hr r (by omega)
      unfold maxLen at r3
      unfold natsI
      simp
      omega
end
end Go.Eng
namespace Go.Eng
set_option autoImplicit false
/-- a slice whose elements are rows of s cells, as it is read -/
def RdR (s : Nat) (η : HN) (y : AV) (ls : List (List AV)) : Prop := (ls = [] ∧ (y = .nilslice ∨ ∃ b off cap, y = .slice b off 0 cap)) ∨
  ∃ b off cap ro row, y = .slice b off ls.length cap ∧ η.f b = .live ro row ∧ b < η.nx ∧ off + ls.length * s ≤ row.length ∧ (∀ l ∈ ls, l.length = s) ∧ (row.drop off).take (ls.length * s) = ls.flatten
theorem RdR.ext {s base : Nat} {η η' : HN} {y : AV} {ls : List (List AV)} (h : RdR s η y ls) (he : ExtB η.nx η η') : RdR s η' y ls := by
  rcases h with h | ⟨b, off, cap, ro, row, h1, h2, h3, h4⟩
  · exact .inl h
  · exact .inr ⟨b, off, cap, ro, row, h1, by rw [he.2 b h3]; exact h2, by have := he.1; omega, h4⟩
theorem RdR.len {s e y' : Nat} {η η' : HN} {y : AV} {ls : List (List AV)} (h : RdR s η y ls) (hl : ls.length ≤ 9223372036854775807) : lenN (.slice e s y') y η' = .ok (.int .i64 ls.length) η' := by
  rcases h with ⟨rfl, rfl | ⟨b, off, cap, rfl⟩⟩ | ⟨b, off, cap, ro, row, rfl, _⟩
  · rfl
  · rfl
  · rw [lenN_sl, lenI_at, if_pos hl]
theorem flat_at {s : Nat} : ∀ (ls : List (List AV)) (i : Nat), (∀ l ∈ ls, l.length = s) → (h : i < ls.length) → (ls.flatten.drop (i * s)).take s = ls[i]
  | [], i, _, h => by simp at h
  | l :: ls, 0, hl, _ => by
    rw [Nat.zero_mul, List.drop_zero, List.flatten_cons, List.take_append_of_le_length (by rw [hl l (by simp)]; exact Nat.le_refl _), List.take_of_length_le (by rw [hl l (by simp)]; exact Nat.le_refl _)]; rfl
  | l :: ls, i + 1, hl, h => by
    have := flat_at ls i (fun x hx => hl x (List.mem_cons_of_mem _ hx)) (by simpa using h)
    have e : (l ++ ls.flatten).drop s = ls.flatten := by
      have := hl l (by simp)
      subst this
      exact List.drop_left
    rw [List.flatten_cons, Nat.succ_mul, Nat.add_comm, ← List.drop_drop, e]
    exact this
/-- one element -/
theorem RdR.at {s : Nat} {η : HN} {y : AV} {ls : List (List AV)} (h : RdR s η y ls) {i : Nat} (hi : i < ls.length) :
    ∃ b off cap ro row, y = .slice b off ls.length cap ∧ η.f b = .live ro row ∧ b < η.nx ∧ off + i * s + s ≤ row.length ∧ (row.drop (off + i * s)).take s = ls[i] := by
  rcases h with ⟨rfl, _⟩ | ⟨b, off, cap, ro, row, h1, h2, h3, h4, h5, h6⟩
  · simp at hi
  · have hle : (i + 1) * s ≤ ls.length * s := Nat.mul_le_mul_right s hi
    rw [Nat.succ_mul] at hle
    refine ⟨b, off, cap, ro, row, h1, h2, h3, by omega, ?_⟩
    have := flat_at ls i h5 hi
    rw [← h6, List.drop_take, List.take_take, List.drop_drop] at this
    rw [← this]
    congr 1
    omega
/-- a slice of ints, as it is read -/
def RdI (k : IntKind) (η : HN) (y : AV) (l : List Nat) : Prop := RdR 1 η y (l.map fun n => [.int k n])
theorem RdI.at {k : IntKind} {η : HN} {y : AV} {l : List Nat} (h : RdI k η y l) {i : Nat} (hi : i < l.length) :
    ∃ b off cap ro row, y = .slice b off l.length cap ∧ η.f b = .live ro row ∧ b < η.nx ∧ row[off + i]? = some (.int k l[i]) := by
  obtain ⟨b, off, cap, ro, row, h1, h2, h3, h4, h5⟩ := RdR.at h (i := i) (by simpa using hi)
  rw [List.length_map] at h1
  refine ⟨b, off, cap, ro, row, h1, h2, h3, ?_⟩
  rw [Nat.mul_one] at h4 h5
  have hlt : off + i < row.length := by omega
  rw [List.drop_eq_getElem_cons hlt, List.getElem_map, List.take_succ_cons, List.take_zero] at h5
  rw [List.getElem?_eq_getElem hlt]
  exact congrArg some (List.cons.inj h5).1
end Go.Eng
namespace Go.Eng
set_option autoImplicit false
section
variable {P : Program} {C : Spec} {PT : Plans} {K : Kont} {φ : FN} {η : HN}
theorem loop_n {b : Code} (m : Nat) (h : loopW (wpN P C PT b) m K φ η) : wpN P C PT (.loop b) K φ η := ⟨m, h⟩
@[go_sem] theorem loopW_s {b : Code} {m : Nat} : loopW (wpN P C PT b) (no_index (m + 1)) K φ η = wpN P C PT b (seqKN (loopW (wpN P C PT b) m K) K) φ η := rfl
end
theorem extN {η η' : HN} {y : BN} (h : ExtB η.nx η η') : ExtB η.nx η (η'.new y) := h.trans (.new h.1)
theorem extP {η η' : HN} {c : Nat} {y : BN} (h : ExtB η.nx η η') (hc : η.nx ≤ c := by first | omega | (simp only [new_nx, put_nx, at_nx]; omega)) : ExtB η.nx η (η'.put c y) := h.trans (.put hc)
theorem extT {η η' η'' : HN} (h : ExtB η.nx η η') (e : ExtB η'.nx η' η'') : ExtB η.nx η η'' := h.trans (e.mono h.1)
theorem extA {η η' : HN} {k : Nat} (h : ExtB η.nx η η') (hk : η.nx ≤ k := by first | omega | (simp only [new_nx, put_nx, at_nx]; omega)) : ExtB η.nx η (η'.at_ k) := h.at_ hk
theorem RdR.cells {s : Nat} {η : HN} {y : AV} {ls : List (List AV)} (h : RdR s η y ls) : cellsV y = some [y] := by
  rcases h with ⟨_, rfl | ⟨b, off, cap, rfl⟩⟩ | ⟨b, off, cap, ro, row, rfl, _⟩ <;> rfl
@[go_sem] theorem rep_4 {z : AV} : List.replicate 4 z = [z, z, z, z] := rfl
@[go_sem] theorem rep_5 {z : AV} : List.replicate 5 z = [z, z, z, z, z] := rfl
@[go_sem] theorem rep_6 {z : AV} : List.replicate 6 z = [z, z, z, z, z, z] := rfl
@[go_sem] theorem rep_7 {z : AV} : List.replicate 7 z = [z, z, z, z, z, z, z] := rfl
@[go_sem] theorem rep_8 {z : AV} : List.replicate 8 z = [z, z, z, z, z, z, z, z] := rfl
@[go_sem] theorem opd_m1 {φ : FN} : opd φ (.const (.int .i64 (-1))) = .int .i64 18446744073709551615 := opd_int rfl rfl
@[go_sem] theorem opd_m1' {φ : FN} : opd φ (.const (.int .i64 (Int.negSucc 0))) = .int .i64 18446744073709551615 := opd_int rfl rfl
@[go_sem] theorem wantV_und {w : Bool} : wantV und w = false := rfl
theorem setsL_app {r : List AV} : ∀ (l m : List AV) (i : Nat), setsL (l ++ m) (l.length + i) r = l ++ setsL m i r
  | [], m, i => by rw [List.nil_append, List.length_nil, Nat.zero_add, List.nil_append]
  | x :: l, m, i => by rw [List.cons_append, List.length_cons, show l.length + 1 + i = l.length + i + 1 by omega, setsL_consS, setsL_app l m i, List.cons_append]
theorem setsL_app0 : ∀ (l r m : List AV), l.length = r.length → setsL (l ++ m) 0 r = r ++ m
  | [], [], m, _ => rfl
  | x :: l, y :: r, m, h => by rw [List.cons_append, setsL_cons0, setsL_app0 l r m (by simpa using h), List.cons_append]
theorem setsL_flat {s : Nat} {r : List AV} (hr : r.length = s) : ∀ (ls : List (List AV)) (i : Nat), (∀ l ∈ ls, l.length = s) → i < ls.length → setsL ls.flatten (i * s) r = (ls.set i r).flatten
  | [], i, _, h => by simp at h
  | l :: ls, 0, hl, _ => by rw [Nat.zero_mul, List.flatten_cons, setsL_app0 l r _ (by rw [hl l (by simp), hr]), List.set_cons_zero, List.flatten_cons]
  | l :: ls, i + 1, hl, h => by
    have e := hl l (by simp)
    rw [List.flatten_cons, show (i + 1) * s = l.length + i * s by rw [Nat.succ_mul, e]; omega, setsL_app, setsL_flat hr ls i (fun x hx => hl x (List.mem_cons_of_mem _ hx)) (by simpa using h), List.set_cons_succ, List.flatten_cons]
theorem flat_len {s : Nat} : ∀ (ls : List (List AV)), (∀ l ∈ ls, l.length = s) → ls.flatten.length = ls.length * s
  | [], _ => by simp
  | l :: ls, h => by rw [List.flatten_cons, List.length_append, flat_len ls (fun x hx => h x (List.mem_cons_of_mem _ hx)), h l (by simp), List.length_cons, Nat.succ_mul]; omega
theorem RdR.blk {s : Nat} {η : HN} {b : Nat} {cap : Cp} {ro : Bool} (ls : List (List AV)) (hb : η.f b = .live ro ls.flatten) (hn : b < η.nx) (hl : ∀ l ∈ ls, l.length = s) : RdR s η (.slice b 0 ls.length cap) ls :=
  .inr ⟨b, 0, cap, ro, _, rfl, hb, hn, by rw [flat_len ls hl]; omega, hl, by rw [List.drop_zero, List.take_of_length_le (by rw [flat_len ls hl]; exact Nat.le_refl _)]⟩
theorem not_le_f {a b : Nat} (h : b < a) : (a ≤ b) = False := eq_false (by omega)
end Go.Eng
