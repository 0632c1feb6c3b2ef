/- What is proved: bytes held against each other; a program, read. a program's bytes, read back by the document's reader, are the program (chapter 14). lists of numbers, read by the document. Conditions: as each theorem says. -/
import Derived.Test.YtjljolnhmmbkoaaDoorCodC
import Derived.Test.YtjljolnhmmbkoaaDoorWN
import Derived.Test.YtjljolnhmmbkoaaDoorCodA
set_option linter.unusedVariables false
set_option linter.unusedSimpArgs false
set_option linter.unusedSectionVars false
namespace Go.Proofs.YtjljolnhmmbkoaaDoor
open Go.Eng Go.Plain
set_option autoImplicit false
set_option maxRecDepth 100000
variable {nat : ∀ [Deep], Nats}
theorem eq30_call (U : Usual nat) {η : HN} {y z : AV} {l k : List Nat} (hy : RdA 1 η y l.length (u8s l)) (hz : RdA 1 η z k.length (u8s k)) (hl : l.length ≤ 9223372036854775807) (hk : k.length ≤ 9223372036854775807) : CallN Tryd.prog nat 30 [y, z] η (.bool (decide (l = k))) η := by
  have : ∃ v η', CallN Tryd.prog nat 30 [y, z] η v η' ∧ v = .bool (decide (l = k)) ∧ η' = η := by
    refine call_of (PT := pl30) Tryd.func30 rfl (U 30 (by decide)) ok30 rfl ?_
    have ly : ∀ e w, lenN (.slice e 1 w) y η = .ok (.int .i64 l.length) η := fun e w => hy.len (by omega)
    have lz : ∀ e w, lenN (.slice e 1 w) z η = .ok (.int .i64 k.length) η := fun e w => hz.len (by omega)
    by_cases hlen : l.length = k.length
    · simp -implicitDefEqProofs (disch := omega) only [go_sem, ly, lz]
      obtain ⟨I, hI⟩ : ∃ I : Nat → FN → HN → Prop, ∀ m φ ζ, I m φ ζ ↔ ζ = η ∧ ∃ i, m = l.length - i ∧ i ≤ l.length ∧ φ 0 = y ∧ φ 1 = z ∧ φ 12 = .int .i64 l.length ∧ φ 13 = .int .i64 i ∧ l.take i = k.take i := ⟨_, fun _ _ _ => Iff.rfl⟩
      refine wpN_loop I l.length ((hI _ _ _).2 ⟨rfl, 0, rfl, Nat.zero_le _, rfl, rfl, rfl, rfl, rfl⟩) ?_
      intro m φ ζ hi
      obtain ⟨rfl, i, hm, hi, p0, p1, p12, p13, ht⟩ := (hI _ _ _).1 hi
      by_cases hlt : i < l.length
      · obtain ⟨b, off, cap, ro, row, ye, hb, hbn, hr⟩ := rdA_u8 hy hlt
        obtain ⟨b2, off2, cap2, ro2, row2, ze, hb2, hbn2, hr2⟩ := rdA_u8 hz (show i < k.length by omega)
        rw [ye] at p0
        rw [ze] at p1
        by_cases hx : l[i] = k[i]
        · simp -implicitDefEqProofs (disch := omega) only [go_sem, p0, p1, p12, p13, hb, hr, hb2, hr2]
          refine ⟨l.length - (i + 1), by omega, (hI _ _ _).2 ⟨rfl, i + 1, rfl, by omega, by rw [ye]; exact p0, by rw [ze]; exact p1, p12, rfl, ?_⟩⟩
          rw [List.take_succ_eq_append_getElem hlt, List.take_succ_eq_append_getElem (show i < k.length by omega), ht, hx]
        · simp -implicitDefEqProofs (disch := omega) only [go_sem, p0, p1, p12, p13, hb, hr, hb2, hr2]
          rw [decide_eq_false]
          intro e
          subst e
          exact hx rfl
      · obtain rfl : i = l.length := by omega
        simp -implicitDefEqProofs (disch := omega) only [go_sem, p0, p1, p12, p13]
        rw [List.take_length, hlen, List.take_length] at ht
        rw [decide_eq_true ht]
    · simp -implicitDefEqProofs (disch := omega) only [go_sem, ly, lz]
      rw [decide_eq_false]
      intro e
      exact hlen (by rw [e])
  obtain ⟨v, η', k, rfl, rfl⟩ := this
  exact k
theorem ltN_big {n m : Nat} (h : 9223372036854775807 < n) (hm : m < 9223372036854775808) : ltN .i64 n m = true := by
  have h1 : nneg .i64 n = false := by
    cases hq : nneg .i64 n with
    | false => rfl
    | true => exact absurd (ble_true.1 hq) (by show ¬ Nat.succ n ≤ 9223372036854775808; omega)
  have h2 : nneg .i64 m = true := ble_true.2 (show Nat.succ m ≤ 9223372036854775808 by omega)
  unfold ltN
  rw [h1, h2]; rfl
abbrev nilP : List AV := [.nilslice, .nilslice, .nilslice, .nilslice, .nilslice, .nilslice]
theorem mark_eq {l : List Nat} (h : 4 ≤ l.length) (hx : ∀ x ∈ l, x < 256) : strEq (l.take 4).length (bV (l.take 4)) 4 (bV markB) = decide (l.take 4 = markB) := by
  have hl : (l.take 4).length = 4 := by rw [List.length_take]; omega
  rw [hl]
  by_cases e : l.take 4 = markB
  · rw [e, decide_eq_true rfl]; rfl
  · rw [decide_eq_false e]
    have : bV (l.take 4) ≠ bV markB := fun q => e (bV_inj hl (fun x h => hx x (List.mem_of_mem_take h)) (by decide) q)
    exact beq_false.2 this
@[go_sem] theorem opd_step {φ : FN} : opd φ (.const (.string ⟨#[83, 84, 69, 80]⟩)) = .str 4 1346720851 := rfl
theorem getC_lt (l : List Nat) (bad : Bool) : ∀ i ∈ (getC l bad).1, i.op < 18446744073709551616 ∧ i.a < 18446744073709551616 ∧ i.b < 18446744073709551616 ∧ i.c < 18446744073709551616 := rdC_lt _ _ _
theorem flat1 {k : IntKind} (l : List Nat) : (l.map (.int k)) = (l.map fun n => [AV.int k n]).flatten := by
  induction l with
  | nil => rfl
  | cons x l ih => rw [List.map_cons, List.map_cons, List.flatten_cons, ← ih]; rfl
theorem rdI_blk {k : IntKind} {η : HN} {b : Nat} {cap : Cp} {ro : Bool} (l : List Nat) (hb : η.f b = .live ro (l.map (.int k))) (hn : b < η.nx) : RdI k η (.slice b 0 l.length cap) l := by
  refine .inr ⟨b, 0, cap, ro, _, by rw [List.length_map], hb, hn, by simp, by simp, ?_⟩
  rw [List.drop_zero, List.take_of_length_le (by simp)]
  exact flat1 l
theorem OwnA.rdI {base n : Nat} {η : HN} {x : AV} {l : List Nat} (h : OwnA 1 base η x n (l.map (.int .i64))) : RdI .i64 η x l := by
  obtain ⟨h0, ⟨rfl, h1⟩ | ⟨b, h1, h2, ⟨rfl, h3, _⟩ | ⟨rfl, h3⟩⟩⟩ := h
  · rw [List.length_map] at h0
    exact .inl ⟨by rw [List.eq_nil_of_length_eq_zero (show l.length = 0 by omega)]; rfl, .inl rfl⟩
  · rw [List.length_map] at h0
    exact .inl ⟨by rw [List.eq_nil_of_length_eq_zero (show l.length = 0 by omega)]; rfl, .inr ⟨_, _, _, rfl⟩⟩
  · rw [List.length_map] at h0
    obtain rfl : n = l.length := by omega
    exact rdI_blk l h3 h2
theorem OwnA.rdC {base n : Nat} {η : HN} {x : AV} {l : List Ins} (h : OwnA 4 base η x n (rowsC l)) : RdC η x l := by
  obtain ⟨h0, ⟨rfl, h1⟩ | ⟨b, h1, h2, ⟨rfl, h3, _⟩ | ⟨rfl, h3⟩⟩⟩ := h
  · rw [rowsC_len] at h0
    exact .inl ⟨by rw [List.eq_nil_of_length_eq_zero (show l.length = 0 by omega)]; rfl, .inl rfl⟩
  · rw [rowsC_len] at h0
    exact .inl ⟨by rw [List.eq_nil_of_length_eq_zero (show l.length = 0 by omega)]; rfl, .inr ⟨_, _, _, rfl⟩⟩
  · rw [rowsC_len] at h0
    obtain rfl : n = l.length := by omega
    exact rdC_blk l h3 h2
/-- all blocks but a reader's and a program's are as they were -/
def KpS (rp W : Nat) (η η' : HN) : Prop := η.nx ≤ η'.nx ∧ ∀ b, b < η.nx → b ≠ rp → b ≠ W → η'.f b = η.f b
theorem KpS.trans {rp W : Nat} {η η' η'' : HN} (h : KpS rp W η η') (k : KpS rp W η' η'') : KpS rp W η η'' := ⟨Nat.le_trans h.1 k.1, fun b hb hr hw => (k.2 b (Nat.lt_of_lt_of_le hb h.1) hr hw).trans (h.2 b hb hr hw)⟩
theorem KpR.s {rp W : Nat} {η η' : HN} (h : KpR rp η η') : KpS rp W η η' := ⟨h.1, fun b hb hr _ => h.2 b hb hr⟩
theorem OwnA.keepS {s base n rp W : Nat} {η η' : HN} {x : AV} {l : List AV} (h : OwnA s base η x n l) (k : KpS rp W η η') (hb : rp < base) (hw : W < base) : OwnA s base η' x n l := OwnA.keep h k.1 fun b h1 h2 => k.2 b h2 (by omega) (by omega)
/-- what stands between the mark and the sum -/
theorem mid_enc (p : PD) : ((encF p).take ((encF p).length - 4)).drop 4 = tailB p ∧ (encF p).take 4 = markB := by
  have hl : (encF p).length - 4 = (encB p).length := by unfold encF low4; rw [List.length_append]; simp
  rw [hl]
  unfold encF encB
  refine ⟨?_, rfl⟩
  rw [List.take_left]; rfl
set_option maxHeartbeats 4000000 in
theorem dec9_then (U : Usual nat) {η : HN} {y : AV} {l : List Nat} {Q : AV → HN → Prop} (hy : RdE η y l) (hx : ∀ x ∈ l, x < 256) (hl : l.length ≤ 10000000)
    (hno : (∀ p, Res p → encF p ≠ l) → ∀ η', ExtB η.nx η η' → Q (.tup [.agg nilP, .int .i64 3]) η')
    (hyes : ∀ z p, Res p → encF p = l → totN p ≤ 1000000000 → ∀ η', IsP η' z p → ExtB η.nx η η' → Q (.tup [.agg z.cells, .int .i64 0]) η') :
    ∃ v η', CallN Tryd.prog nat 9 [y] η v η' ∧ Q v η' := by
  refine call_of (PT := pl9) Tryd.func9 rfl (U 9 (by decide)) ok9 rfl ?_
  have ly : ∀ e w η, lenN (.slice e 1 w) y η = .ok (.int .i64 l.length) η := fun e w η => hy.toA.len (by omega)
  have el : ∀ p, (encF p).length = 8 + (tailB p).length := fun p => by unfold encF encB low4; simp only [List.length_append]; show 4 + _ + 4 = _; omega
  have f0 : ∀ y, (η.new y).f η.nx = y := fun y => by show (if η.nx = η.nx then _ else _) = _; rw [if_pos rfl]
  by_cases h8 : l.length < 8
  · have no : ∀ p, Res p → encF p ≠ l := fun p _ e => by have := el p; rw [e] at this; omega
    have fin := hno no _ (extP (c := η.nx) (y := .live false nilP) (extN (y := .live false nilP) (.refl _ _)))
    by_cases h4 : l.length < 4
    · have hn : ltN .i64 (l.length + (18446744073709551616 - 4)) 4 = true := ltN_big (by omega) (by decide)
      simp -implicitDefEqProofs (disch := omega) only [go_sem, ly, hn]
      exact fin
    · simp -implicitDefEqProofs (disch := omega) only [go_sem, ly]
      exact fin
  · obtain ⟨y4, e4, r4⟩ := hy.cut0 (e := 5) (w := 1) (hi := 4) (by omega) (by omega) (by omega)
    have hl4 : (l.take 4).length = 4 := by rw [List.length_take]; omega
    have s4 : ∀ e w η', ExtB η.nx η η' → isU8D (tdOf Tryd.prog e) = true → cvN' Tryd.prog (.slice e 1 w) .str y4 η' = .ok (.str (l.take 4).length (bV (l.take 4))) η' := fun e w η' E hP => str_of (r4.ext E).toA (fun q => by rw [q] at hl4; simp at hl4) hP
    have s4' := s4 5 1 _ (extN (y := .live false nilP) (.refl _ _)) (by kernel_rfl)
    simp -implicitDefEqProofs (disch := omega) only [go_sem, ly, e4]
    have sm := mark_eq (l := l) (by omega) hx
    by_cases hmk : l.take 4 = markB
    · rw [decide_eq_true hmk] at sm
      have sm' : strEq (l.take 4).length (bV (l.take 4)) 4 1346720851 = true := sm
      obtain ⟨ym, em, rm⟩ := hy.cut (e := 5) (w := 1) (lo := 4) (hi := l.length - 4) (by omega) (by omega) (by omega) (by omega)
      simp -implicitDefEqProofs (disch := omega) only [go_sem, s4', sm', em]
      obtain ⟨md, hmd⟩ : ∃ md, md = (l.take (l.length - 4)).drop 4 := ⟨_, rfl⟩
      rw [← hmd] at rm
      have hxm : ∀ x ∈ md, x < 256 := fun x h => hx x (by rw [hmd] at h; exact List.mem_of_mem_take (List.mem_of_mem_drop h))
      have hlm : md.length = l.length - 8 := by rw [hmd, List.length_drop, List.length_take]; omega
      refine thenN_call (read_then U (rm.ext (extN (.refl _ _))).toA (by omega) fun rp η1 R1 hrp E1 => ?_)
      have hrp : η.nx + 1 ≤ rp := hrp
      have n1 : η.nx + 1 ≤ η1.nx := E1.1
      have hrn : rp < η1.nx := by obtain ⟨_, _, h, _⟩ := R1; exact h
      have t1 : η1.f η.nx = .live false nilP := (E1.2 η.nx (Nat.lt_succ_self _)).trans (f0 _)
      have EE1 : ExtB η.nx η η1 := (extN (.refl _ _)).trans (E1.mono (Nat.le_succ _))
      simp -implicitDefEqProofs (disch := omega) only [go_sem]
      obtain ⟨W, hW⟩ : ∃ W, W = η1.nx + 1 + 1 := ⟨_, rfl⟩
      obtain ⟨ζ0, hζ⟩ : ∃ ζ, ζ = ((((η1.new (.live false [AV.nilptr])).put η1.nx (.live false [AV.ptr rp 0])).new (.live false [AV.nilFunc])).put (η1.nx + 1) (.live false [AV.func 24 [] [AV.ptr η1.nx 0]])).new (.live false nilP) := ⟨_, rfl⟩
      have E2 : ExtB η1.nx η1 ζ0 := by rw [hζ]; exact extN (extP (extN (extP (extN (.refl _ _)))))
      have hn0 : ζ0.nx = η1.nx + 3 := by rw [hζ]; rfl
      have c0 : ζ0.f η1.nx = .live false [AV.ptr rp 0] := by rw [hζ]; show (if η1.nx = η1.nx + 1 + 1 then _ else if η1.nx = η1.nx + 1 then _ else if η1.nx = η1.nx + 1 then _ else if η1.nx = η1.nx then _ else _) = _; rw [if_neg (by omega), if_neg (by omega), if_neg (by omega), if_pos rfl]
      have d0 : ζ0.f (η1.nx + 1) = .live false [AV.func 24 [] [AV.ptr η1.nx 0]] := by rw [hζ]; show (if η1.nx + 1 = η1.nx + 1 + 1 then _ else if η1.nx + 1 = η1.nx + 1 then _ else _) = _; rw [if_neg (by omega), if_pos rfl]
      have g0 : ζ0.f W = .live false nilP := by rw [hζ, hW]; show (if η1.nx + 1 + 1 = η1.nx + 1 + 1 then _ else _) = _; rw [if_pos rfl]
      have t0 : ζ0.f η.nx = .live false nilP := (E2.2 _ (by omega)).trans t1
      have R0 := R1.keep E2
      rw [← hζ, ← hW]
      have hlm8 : md.length ≤ 1000000000 := by omega
      have hdec : decF md = decF md := rfl
      conv at hdec => rhs; unfold decF
      dsimp only at hdec
      have Lx1 := getN_rest md false
      have Ll1 := getN_len md false
      refine dE_call (get25_then U R0 c0 (by omega) (by omega) hxm (by omega) fun v1 ζ1 o1 R1 F1 => ?_)
      have n1 := F1.1
      have c1 := (F1.2 η1.nx (by omega) (by omega)).trans c0
      have d1 := (F1.2 (η1.nx + 1) (by omega) (by omega)).trans d0
      have g1 := (F1.2 W (by omega) (by omega)).trans g0
      have t1 := (F1.2 η.nx (by omega) (by omega)).trans t0
      have x1 : ∀ x ∈ (getN md false).2.1, x < 256 := fun x h => hxm x (Lx1.1 x h)
      have lt1 := getN_lt md false
      generalize ha1 : getN md false = a1 at *
      have q1 := OwnA.cells1 o1
      simp -implicitDefEqProofs (disch := omega) only [go_sem, c0, c1, g1, t1, q1]
      have Lx2 := getN_rest a1.2.1 a1.2.2
      have Ll2 := getN_len a1.2.1 a1.2.2
      refine dE_call (get25_then U R1 c1 (by omega) (by omega) x1 (by omega) fun v2 ζ2 o2 R2 F2 => ?_)
      have n2 := F2.1
      have c2 := (F2.2 η1.nx (by omega) (by omega)).trans c1
      have d2 := (F2.2 (η1.nx + 1) (by omega) (by omega)).trans d1
      have g2 := (F2.2 W (by omega) (by omega)).trans g1
      have t2 := (F2.2 η.nx (by omega) (by omega)).trans t1
      have x2 : ∀ x ∈ (getN a1.2.1 a1.2.2).2.1, x < 256 := fun x h => x1 x (Lx2.1 x h)
      have lt2 := getN_lt a1.2.1 a1.2.2
      generalize ha2 : getN a1.2.1 a1.2.2 = a2 at *
      have q2 := OwnA.cells1 o2
      simp -implicitDefEqProofs (disch := omega) only [go_sem, c0, c1, c2, g2, t2, q1, q2]
      have Lx3 := getN_rest a2.2.1 a2.2.2
      have Ll3 := getN_len a2.2.1 a2.2.2
      refine dE_call (get25_then U R2 c2 (by omega) (by omega) x2 (by omega) fun v3 ζ3 o3 R3 F3 => ?_)
      have n3 := F3.1
      have c3 := (F3.2 η1.nx (by omega) (by omega)).trans c2
      have d3 := (F3.2 (η1.nx + 1) (by omega) (by omega)).trans d2
      have g3 := (F3.2 W (by omega) (by omega)).trans g2
      have t3 := (F3.2 η.nx (by omega) (by omega)).trans t2
      have x3 : ∀ x ∈ (getN a2.2.1 a2.2.2).2.1, x < 256 := fun x h => x2 x (Lx3.1 x h)
      have lt3 := getN_lt a2.2.1 a2.2.2
      generalize ha3 : getN a2.2.1 a2.2.2 = a3 at *
      have q3 := OwnA.cells1 o3
      simp -implicitDefEqProofs (disch := omega) only [go_sem, c0, c1, c2, c3, g3, t3, q1, q2, q3]
      have Lx4 := getN_rest a3.2.1 a3.2.2
      have Ll4 := getN_len a3.2.1 a3.2.2
      refine dE_call (get25_then U R3 c3 (by omega) (by omega) x3 (by omega) fun v4 ζ4 o4 R4 F4 => ?_)
      have n4 := F4.1
      have c4 := (F4.2 η1.nx (by omega) (by omega)).trans c3
      have d4 := (F4.2 (η1.nx + 1) (by omega) (by omega)).trans d3
      have g4 := (F4.2 W (by omega) (by omega)).trans g3
      have t4 := (F4.2 η.nx (by omega) (by omega)).trans t3
      have x4 : ∀ x ∈ (getN a3.2.1 a3.2.2).2.1, x < 256 := fun x h => x3 x (Lx4.1 x h)
      have lt4 := getN_lt a3.2.1 a3.2.2
      generalize ha4 : getN a3.2.1 a3.2.2 = a4 at *
      have q4 := OwnA.cells1 o4
      simp -implicitDefEqProofs (disch := omega) only [go_sem, c0, c1, c2, c3, c4, g4, t4, q1, q2, q3, q4]
      obtain ⟨ξ4, hξ4⟩ : ∃ ξ, ξ = ((((ζ4.put W (.live false [v1, .nilslice, .nilslice, .nilslice, .nilslice, .nilslice])).put W (.live false [v1, v2, .nilslice, .nilslice, .nilslice, .nilslice])).put W (.live false [v1, v2, v3, .nilslice, .nilslice, .nilslice])).put W (.live false [v1, v2, v3, v4, .nilslice, .nilslice])) := ⟨_, rfl⟩
      have xn4 : ξ4.nx = ζ4.nx := by rw [hξ4]; rfl
      have kx4 : ∀ b, b ≠ W → ξ4.f b = ζ4.f b := fun b hb => by rw [hξ4]; show (if b = W then _ else if b = W then _ else if b = W then _ else if b = W then _ else _) = _; rw [if_neg hb, if_neg hb, if_neg hb, if_neg hb]
      have w4 : ξ4.f W = .live false [v1, v2, v3, v4, .nilslice, .nilslice] := by rw [hξ4]; show (if W = W then _ else _) = _; rw [if_pos rfl]
      have R4 := R4.keepB (Nat.le_of_eq xn4.symm) fun b hb => kx4 b (by omega)
      have c4 := (kx4 η1.nx (by omega)).trans c4
      have d4 := (kx4 (η1.nx + 1) (by omega)).trans d4
      have t4 := (kx4 η.nx (by omega)).trans t4
      have S4 : KpS rp W ζ4 ξ4 := ⟨Nat.le_of_eq xn4.symm, fun b _ _ hw => kx4 b hw⟩
      rw [← hξ4]
      have Lx5 := getN_rest a4.2.1 a4.2.2
      have Ll5 := getN_len a4.2.1 a4.2.2
      refine thenN_call (get26_then U R4 x4 (by omega) fun v5 ζ5 o5 R5 F5 => ?_)
      have n5 := F5.1
      have c5 := (F5.2 η1.nx (by omega) (by omega)).trans c4
      have d5 := (F5.2 (η1.nx + 1) (by omega) (by omega)).trans d4
      have g5 := (F5.2 W (by omega) (by omega)).trans w4
      have t5 := (F5.2 η.nx (by omega) (by omega)).trans t4
      have x5 : ∀ x ∈ (getN a4.2.1 a4.2.2).2.1, x < 256 := fun x h => x4 x (Lx5.1 x h)
      have lt5 := getN_lt a4.2.1 a4.2.2
      generalize ha5 : getN a4.2.1 a4.2.2 = a5 at *
      have q5 := OwnA.cells1 o5
      simp -implicitDefEqProofs (disch := omega) only [go_sem, c0, c1, c2, c3, c4, c5, g5, t5, q1, q2, q3, q4, q5]
      obtain ⟨ξ5, hξ5⟩ : ∃ ξ, ξ = ζ5.put W (.live false [v1, v2, v3, v4, v5, .nilslice]) := ⟨_, rfl⟩
      have xn5 : ξ5.nx = ζ5.nx := by rw [hξ5]; rfl
      have kx5 : ∀ b, b ≠ W → ξ5.f b = ζ5.f b := fun b hb => by rw [hξ5]; show (if b = W then _ else _) = _; rw [if_neg hb]
      have w5 : ξ5.f W = .live false [v1, v2, v3, v4, v5, .nilslice] := by rw [hξ5]; show (if W = W then _ else _) = _; rw [if_pos rfl]
      have R5 := R5.keepB (Nat.le_of_eq xn5.symm) fun b hb => kx5 b (by omega)
      have c5 := (kx5 η1.nx (by omega)).trans c5
      have d5 := (kx5 (η1.nx + 1) (by omega)).trans d5
      have t5 := (kx5 η.nx (by omega)).trans t5
      have S5 : KpS rp W ζ5 ξ5 := ⟨Nat.le_of_eq xn5.symm, fun b _ _ hw => kx5 b hw⟩
      rw [← hξ5]
      have Lx6 := getC_rest a5.2.1 a5.2.2
      have Ll6 := getC_len a5.2.1 a5.2.2
      refine thenN_call (get27_then U R5 d5 (by omega) (by omega) c5 (by omega) (by omega) x5 (by omega) fun v6 ζ6 o6 R6 F6 => ?_)
      have n6 := F6.1
      have c6 := (F6.2 η1.nx (by omega) (by omega)).trans c5
      have d6 := (F6.2 (η1.nx + 1) (by omega) (by omega)).trans d5
      have g6 := (F6.2 W (by omega) (by omega)).trans w5
      have t6 := (F6.2 η.nx (by omega) (by omega)).trans t5
      have x6 : ∀ x ∈ (getC a5.2.1 a5.2.2).2.1, x < 256 := fun x h => x5 x (Lx6.1 x h)
      have lt6 := getC_lt a5.2.1 a5.2.2
      generalize ha6 : getC a5.2.1 a5.2.2 = a6 at *
      have q6 := OwnA.cells1 o6
      simp -implicitDefEqProofs (disch := omega) only [go_sem, c0, c1, c2, c3, c4, c5, c6, g6, t6, q1, q2, q3, q4, q5, q6]
      obtain ⟨ξ6, hξ6⟩ : ∃ ξ, ξ = ζ6.put W (.live false [v1, v2, v3, v4, v5, v6]) := ⟨_, rfl⟩
      have xn6 : ξ6.nx = ζ6.nx := by rw [hξ6]; rfl
      have kx6 : ∀ b, b ≠ W → ξ6.f b = ζ6.f b := fun b hb => by rw [hξ6]; show (if b = W then _ else _) = _; rw [if_neg hb]
      have w6 : ξ6.f W = .live false [v1, v2, v3, v4, v5, v6] := by rw [hξ6]; show (if W = W then _ else _) = _; rw [if_pos rfl]
      have R6 := R6.keepB (Nat.le_of_eq xn6.symm) fun b hb => kx6 b (by omega)
      have c6 := (kx6 η1.nx (by omega)).trans c6
      have d6 := (kx6 (η1.nx + 1) (by omega)).trans d6
      have t6 := (kx6 η.nx (by omega)).trans t6
      have S6 : KpS rp W ζ6 ξ6 := ⟨Nat.le_of_eq xn6.symm, fun b _ _ hw => kx6 b hw⟩
      rw [← hξ6]
      have T5 := S5.trans ((KpR.s F6).trans S6)
      have T4 := S4.trans ((KpR.s F5).trans T5)
      have T3 := (KpR.s (W := W) F4).trans T4
      have T2 := (KpR.s (W := W) F3).trans T3
      have T1 := (KpR.s (W := W) F2).trans T2
      have T0 := (KpR.s (W := W) F1).trans T1
      obtain ⟨p, hp⟩ : ∃ p : PD, p = ⟨a1.1, a2.1, a3.1, a4.1, a5.1, a6.1⟩ := ⟨_, rfl⟩
      rw [← hp] at hdec
      have hP : ∀ ζ' : HN, ξ6.nx ≤ ζ'.nx → (∀ b, ζ0.nx ≤ b → b < ξ6.nx → ζ'.f b = ξ6.f b) → IsP ζ' ⟨v1, v2, v3, v4, v5, v6⟩ p := fun ζ' hn hk => by
        rw [hp]
        refine ⟨OwnA.rdI (OwnA.keep (OwnA.keepS o1 T1 (by omega) (by omega)) hn fun b h1 h2 => hk b (by omega) h2), OwnA.rdI (OwnA.keep (OwnA.keepS o2 T2 (by omega) (by omega)) hn fun b h1 h2 => hk b (by omega) h2), OwnA.rdI (OwnA.keep (OwnA.keepS o3 T3 (by omega) (by omega)) hn fun b h1 h2 => hk b (by omega) h2), OwnA.rdI (OwnA.keep (OwnA.keepS o4 T4 (by omega) (by omega)) hn fun b h1 h2 => hk b (by omega) h2), OwnA.rdI (OwnA.keep (OwnA.keepS o5 T5 (by omega) (by omega)) hn fun b h1 h2 => hk b (by omega) h2), OwnA.rdC (OwnA.keep (OwnA.keepS o6 S6 (by omega) (by omega)) hn fun b h1 h2 => hk b (by omega) h2)⟩
      have EX : ExtB η.nx η ξ6 := ⟨by have := T0.1; omega, fun b hb => (T0.2 b (by omega) (by omega) (by omega)).trans ((E2.2 b (by omega)).trans (EE1.2 b hb))⟩
      have hres : Res p := by
        rw [hp]
        exact ⟨⟨by show a1.1.length < _; omega, lt1⟩, ⟨by show a2.1.length < _; omega, lt2⟩, ⟨by show a3.1.length < _; omega, lt3⟩, ⟨by show a4.1.length < _; omega, lt4⟩, ⟨by show a5.1.length < _; omega, lt5⟩, ⟨by show a6.1.length < _; omega, lt6⟩⟩
      have htot : totN p ≤ 1000000000 := by
        rw [hp]
        show a1.1.length + (a2.1.length + (a3.1.length + (a4.1.length + (a5.1.length + 4 * a6.1.length)))) ≤ _
        omega
      have main : a6.2.2 = true ∨ encF p ≠ l → ∀ p', Res p' → encF p' ≠ l := fun hor p' hp' he => by
        have hm := (mid_enc p').1
        rw [he, ← hmd] at hm
        have hd := dec_enc hp' []
        rw [List.append_nil, ← hm, hdec] at hd
        obtain ⟨e1, e2⟩ := Prod.mk.inj hd
        rcases hor with h | h
        · rw [e2] at h; cases h
        · rw [e1] at h; exact h he
      refine thenN_call ⟨_, _, bad_call U R6, ?_⟩
      cases hbad : a6.2.2 with
      | true =>
        simp -implicitDefEqProofs (disch := omega) only [go_sem, t6]
        exact hno (main (.inl hbad)) _ (extP EX)
      | false =>
        simp -implicitDefEqProofs (disch := omega) only [go_sem, w6]
        refine thenN_call (enc_then U (z := ⟨v1, v2, v3, v4, v5, v6⟩) (hP ξ6 (Nat.le_refl _) fun _ _ _ => rfl) hres htot fun v7 ξ7 o7 F7 => ?_)
        have w7 := (F7.2 W (by omega)).trans w6
        have t7 := (F7.2 η.nx (by omega)).trans t6
        have n7 := F7.1
        have EX7 : ExtB η.nx η ξ7 := EX.trans (F7.mono EX.1)
        simp -implicitDefEqProofs (disch := omega) only [go_sem]
        have hlen7 : (encF p).length ≤ 9223372036854775807 := by have := el p; have := tail_len p; omega
        refine thenN_call ⟨_, _, eq30_call U o7.toA (hy.ext EX7).toA hlen7 (by omega), ?_⟩
        by_cases he : encF p = l
        · rw [decide_eq_true he]
          simp -implicitDefEqProofs (disch := omega) only [go_sem, w7, t7]
          exact hyes ⟨v1, v2, v3, v4, v5, v6⟩ p hres he htot _ (hP _ (by show ξ6.nx ≤ ξ7.nx; omega) fun b h1 h2 => by show (if b = η.nx then _ else _) = _; rw [if_neg (by omega)]; exact F7.2 b h2) (extP EX7)
        · rw [decide_eq_false he]
          simp -implicitDefEqProofs (disch := omega) only [go_sem, w7, t7]
          exact hno (main (.inr he)) _ (extP EX7)
    · rw [decide_eq_false hmk] at sm
      have sm' : strEq (l.take 4).length (bV (l.take 4)) 4 1346720851 = false := sm
      simp -implicitDefEqProofs (disch := omega) only [go_sem, s4', sm']
      refine hno (fun p hp e => hmk ?_) _ (extP (c := η.nx) (y := .live false nilP) (extN (y := .live false nilP) (.refl _ _)))
      rw [← e]
      exact (mid_enc p).2
end Go.Proofs.YtjljolnhmmbkoaaDoor
namespace Go.Plain
open Go.Eng
set_option autoImplicit false
/-- a length that is not more than bytes are left -/
def nF (l : List Nat) (bad : Bool) : Nat × List Nat × Bool := if (rdG l bad).2.1.length < (rdG l bad).1 then (0, (rdG l bad).2.1, true) else rdG l bad
/-- so many numbers, as long as all is well -/
def rdB : Nat → List Nat → Bool → List Nat × List Nat × Bool
  | 0, l, bad => ([], l, bad)
  | n + 1, l, bad => if bad = true then ([], l, bad) else (uz (rdG l bad).1 :: (rdB n (rdG l bad).2.1 (rdG l bad).2.2).1, (rdB n (rdG l bad).2.1 (rdG l bad).2.2).2)
def rd4 (l : List Nat) (bad : Bool) : Ins × List Nat × Bool :=
  (⟨uz (rdG l bad).1, uz (rdG (rdG l bad).2.1 (rdG l bad).2.2).1, uz (rdG (rdG (rdG l bad).2.1 (rdG l bad).2.2).2.1 (rdG (rdG l bad).2.1 (rdG l bad).2.2).2.2).1,
    uz (rdG (rdG (rdG (rdG l bad).2.1 (rdG l bad).2.2).2.1 (rdG (rdG l bad).2.1 (rdG l bad).2.2).2.2).2.1 (rdG (rdG (rdG l bad).2.1 (rdG l bad).2.2).2.1 (rdG (rdG l bad).2.1 (rdG l bad).2.2).2.2).2.2).1⟩,
   (rdG (rdG (rdG (rdG l bad).2.1 (rdG l bad).2.2).2.1 (rdG (rdG l bad).2.1 (rdG l bad).2.2).2.2).2.1 (rdG (rdG (rdG l bad).2.1 (rdG l bad).2.2).2.1 (rdG (rdG l bad).2.1 (rdG l bad).2.2).2.2).2.2).2)
def rdCB : Nat → List Nat → Bool → List Ins × List Nat × Bool
  | 0, l, bad => ([], l, bad)
  | n + 1, l, bad => if bad = true then ([], l, bad) else ((rd4 l bad).1 :: (rdCB n (rd4 l bad).2.1 (rd4 l bad).2.2).1, (rdCB n (rd4 l bad).2.1 (rd4 l bad).2.2).2)
def lstB (l : List Nat) (bad : Bool) : List Nat × List Nat × Bool := rdB (nF l bad).1 (nF l bad).2.1 (nF l bad).2.2
def codB (l : List Nat) (bad : Bool) : List Ins × List Nat × Bool := rdCB (nF l bad).1 (nF l bad).2.1 (nF l bad).2.2
theorem nF_le (l : List Nat) (bad : Bool) : (nF l bad).1 ≤ (nF l bad).2.1.length ∧ (nF l bad).2.1.length ≤ l.length ∧ ∀ x ∈ (nF l bad).2.1, x ∈ l := by
  unfold nF
  split
  · exact ⟨Nat.zero_le _, rdG_len _ _, rdG_rest _ _⟩
  · exact ⟨by omega, rdG_len _ _, rdG_rest _ _⟩
theorem rd4_rest (l : List Nat) (bad : Bool) : (∀ x ∈ (rd4 l bad).2.1, x ∈ l) ∧ (rd4 l bad).2.1.length ≤ l.length := by
  unfold rd4
  dsimp only
  have h1 := rdG_rest l bad
  have k1 := rdG_len l bad
  generalize rdG l bad = a at *
  have h2 := rdG_rest a.2.1 a.2.2
  have k2 := rdG_len a.2.1 a.2.2
  generalize rdG a.2.1 a.2.2 = b at *
  have h3 := rdG_rest b.2.1 b.2.2
  have k3 := rdG_len b.2.1 b.2.2
  generalize rdG b.2.1 b.2.2 = c at *
  have h4 := rdG_rest c.2.1 c.2.2
  have k4 := rdG_len c.2.1 c.2.2
  exact ⟨fun x hx => h1 x (h2 x (h3 x (h4 x hx))), by omega⟩
theorem rd4_lt (l : List Nat) (bad : Bool) : (rd4 l bad).1.op < 18446744073709551616 ∧ (rd4 l bad).1.a < 18446744073709551616 ∧ (rd4 l bad).1.b < 18446744073709551616 ∧ (rd4 l bad).1.c < 18446744073709551616 :=
  ⟨uz_lt (rdG_lt _ _), uz_lt (rdG_lt _ _), uz_lt (rdG_lt _ _), uz_lt (rdG_lt _ _)⟩
theorem rdB_rest : ∀ (n : Nat) (l : List Nat) (bad : Bool), (∀ x ∈ (rdB n l bad).2.1, x ∈ l) ∧ (rdB n l bad).2.1.length ≤ l.length ∧ (rdB n l bad).1.length ≤ n ∧ ∀ x ∈ (rdB n l bad).1, x < 18446744073709551616
  | 0, l, bad => ⟨fun x h => h, Nat.le_refl _, Nat.le_refl _, fun x h => by cases h⟩
  | n + 1, l, bad => by
    unfold rdB
    split
    · exact ⟨fun x h => h, Nat.le_refl _, Nat.zero_le _, fun x h => by cases h⟩
    · obtain ⟨h1, h2, h3, h4⟩ := rdB_rest n (rdG l bad).2.1 (rdG l bad).2.2
      refine ⟨fun x hx => rdG_rest _ _ x (h1 x hx), Nat.le_trans h2 (rdG_len _ _), Nat.succ_le_succ h3, fun x hx => ?_⟩
      rcases List.mem_cons.1 hx with rfl | hx
      · exact uz_lt (rdG_lt _ _)
      · exact h4 x hx
theorem rdCB_rest : ∀ (n : Nat) (l : List Nat) (bad : Bool), (∀ x ∈ (rdCB n l bad).2.1, x ∈ l) ∧ (rdCB n l bad).2.1.length ≤ l.length ∧ (rdCB n l bad).1.length ≤ n ∧ ∀ i ∈ (rdCB n l bad).1, i.op < 18446744073709551616 ∧ i.a < 18446744073709551616 ∧ i.b < 18446744073709551616 ∧ i.c < 18446744073709551616
  | 0, l, bad => ⟨fun x h => h, Nat.le_refl _, Nat.le_refl _, fun x h => by cases h⟩
  | n + 1, l, bad => by
    unfold rdCB
    split
    · exact ⟨fun x h => h, Nat.le_refl _, Nat.zero_le _, fun x h => by cases h⟩
    · obtain ⟨h1, h2, h3, h4⟩ := rdCB_rest n (rd4 l bad).2.1 (rd4 l bad).2.2
      have h5 := rd4_rest l bad
      refine ⟨fun x hx => h5.1 x (h1 x hx), Nat.le_trans h2 h5.2, Nat.succ_le_succ h3, fun x hx => ?_⟩
      rcases List.mem_cons.1 hx with rfl | hx
      · exact rd4_lt _ _
      · exact h4 x hx
theorem lstB_rest (l : List Nat) (bad : Bool) : (∀ x ∈ (lstB l bad).2.1, x ∈ l) ∧ (lstB l bad).2.1.length ≤ l.length ∧ (lstB l bad).1.length ≤ l.length ∧ ∀ x ∈ (lstB l bad).1, x < 18446744073709551616 := by
  obtain ⟨a, b, c⟩ := nF_le l bad
  obtain ⟨h1, h2, h3, h4⟩ := rdB_rest (nF l bad).1 (nF l bad).2.1 (nF l bad).2.2
  exact ⟨fun x hx => c x (h1 x hx), Nat.le_trans h2 b, by unfold lstB; omega, h4⟩
theorem codB_rest (l : List Nat) (bad : Bool) : (∀ x ∈ (codB l bad).2.1, x ∈ l) ∧ (codB l bad).2.1.length ≤ l.length ∧ (codB l bad).1.length ≤ l.length ∧ ∀ i ∈ (codB l bad).1, i.op < 18446744073709551616 ∧ i.a < 18446744073709551616 ∧ i.b < 18446744073709551616 ∧ i.c < 18446744073709551616 := by
  obtain ⟨a, b, c⟩ := nF_le l bad
  obtain ⟨h1, h2, h3, h4⟩ := rdCB_rest (nF l bad).1 (nF l bad).2.1 (nF l bad).2.2
  exact ⟨fun x hx => c x (h1 x hx), Nat.le_trans h2 b, by unfold codB; omega, h4⟩
theorem nF_uv {u : Nat} (h : u < 18446744073709551616) (r : List Nat) (hr : u ≤ r.length) : nF (uv u ++ r) false = (u, r, false) := by
  unfold nF
  rw [rdG_uv h]
  exact if_neg (by dsimp only; omega)
theorem rdB_nums : ∀ (l r : List Nat), (∀ n ∈ l, n < 18446744073709551616) → rdB l.length (nums l ++ r) false = (l, r, false)
  | [], r, _ => rfl
  | a :: l, r, h => by
    have ha := h a (by simp)
    have e : nums (a :: l) ++ r = uv (zz a) ++ (nums l ++ r) := by show (uv (zz a) ++ nums l) ++ r = _; rw [List.append_assoc]
    rw [e, List.length_cons, rdB, if_neg (by decide), rdG_uv (zz_lt ha)]
    dsimp only
    rw [rdB_nums l r fun n hn => h n (List.mem_cons_of_mem _ hn), uz_zz ha]
theorem lstB_lst {l : List Nat} (r : List Nat) (h : l.length < 18446744073709551616 ∧ ∀ n ∈ l, n < 18446744073709551616) : lstB (lst l ++ r) false = (l, r, false) := by
  unfold lstB lst
  rw [List.append_assoc, nF_uv h.1 _ (by rw [List.length_append]; have := (nums_len l).1; omega)]
  exact rdB_nums l r h.2
theorem rd4_uv {i : Ins} (h : i.op < 18446744073709551616 ∧ i.a < 18446744073709551616 ∧ i.b < 18446744073709551616 ∧ i.c < 18446744073709551616) (r : List Nat) : rd4 (uv (zz i.op) ++ (uv (zz i.a) ++ (uv (zz i.b) ++ (uv (zz i.c) ++ r)))) false = (i, r, false) := by
  obtain ⟨h1, h2, h3, h4⟩ := h
  unfold rd4
  simp only [rdG_uv (zz_lt h1), rdG_uv (zz_lt h2), rdG_uv (zz_lt h3), rdG_uv (zz_lt h4), uz_zz h1, uz_zz h2, uz_zz h3, uz_zz h4]
theorem rdCB_flds : ∀ (c : List Ins) (r : List Nat), (∀ i ∈ c, i.op < 18446744073709551616 ∧ i.a < 18446744073709551616 ∧ i.b < 18446744073709551616 ∧ i.c < 18446744073709551616) → rdCB c.length (nums (flds c) ++ r) false = (c, r, false)
  | [], r, _ => rfl
  | i :: c, r, h => by
    have e : nums (flds (i :: c)) ++ r = uv (zz i.op) ++ (uv (zz i.a) ++ (uv (zz i.b) ++ (uv (zz i.c) ++ (nums (flds c) ++ r)))) := by
      show (uv (zz i.op) ++ (uv (zz i.a) ++ (uv (zz i.b) ++ (uv (zz i.c) ++ nums (flds c))))) ++ r = _
      simp only [List.append_assoc]
    rw [e, List.length_cons, rdCB, if_neg (by decide), rd4_uv (h i (by simp))]
    dsimp only
    rw [rdCB_flds c r fun n hn => h n (List.mem_cons_of_mem _ hn)]
theorem codB_lst {c : List Ins} (r : List Nat) (h : c.length < 18446744073709551616 ∧ ∀ i ∈ c, i.op < 18446744073709551616 ∧ i.a < 18446744073709551616 ∧ i.b < 18446744073709551616 ∧ i.c < 18446744073709551616) : codB (lstC c ++ r) false = (c, r, false) := by
  unfold codB lstC
  have hl := flds_len c
  rw [List.append_assoc, nF_uv h.1 _ (by rw [List.length_append]; have := (nums_len (flds c)).1; omega)]
  exact rdCB_flds c r h.2
/-- a program out of bytes, what is left, whether it is spoilt -/
def decB (l : List Nat) : PD × List Nat × Bool :=
  let a := lstB l false
  let b := lstB a.2.1 a.2.2
  let c := lstB b.2.1 b.2.2
  let d := lstB c.2.1 c.2.2
  let e := lstB d.2.1 d.2.2
  let f := codB e.2.1 e.2.2
  (⟨a.1, b.1, c.1, d.1, e.1, f.1⟩, f.2)
theorem decB_enc {p : PD} (h : Res p) (r : List Nat) : decB (tailB p ++ r) = (p, r, false) := by
  unfold decB tailB
  simp only [List.append_assoc, lstB_lst _ h.ins, lstB_lst _ h.outs, lstB_lst _ h.slots, lstB_lst _ h.mems, lstB_lst _ h.consts, codB_lst _ h.code]
end Go.Plain
namespace Go.Eng
set_option autoImplicit false
section
variable {P : Program} {C : Eng.Spec} {PT : Plans} {φ : FN} {η : HN}
/-- a loop's one way out, told apart -/
def exitK (e : Nat) (J : FN → HN → Prop) (K : Kont) : Kont := fun x φ η => match x with | .exit i => if i = e then J φ η else K (.exit i) φ η | .normal => K .normal φ η | .ret => K .ret φ η
@[go_sem] theorem exitK_e {e i : Nat} {J : FN → HN → Prop} {K : Kont} : exitK e J K (.exit i) φ η = if i = e then J φ η else K (.exit i) φ η := rfl
@[go_sem] theorem exitK_n {e : Nat} {J : FN → HN → Prop} {K : Kont} : exitK e J K .normal φ η = K .normal φ η := rfl
@[go_sem] theorem exitK_r {e : Nat} {J : FN → HN → Prop} {K : Kont} : exitK e J K .ret φ η = K .ret φ η := rfl
theorem wpN_loopJ {b : Code} {K : Kont} (e : Nat) (I : Nat → FN → HN → Prop) (J : FN → HN → Prop) (m : Nat) (h0 : I m φ η) (step : ∀ m φ η, I m φ η → wpN P C PT b (rndKN I m (exitK e J K)) φ η) (after : ∀ φ η, J φ η → K (.exit e) φ η) : wpN P C PT (.loop b) K φ η := by
  refine wpN_mono (.loop b) (exitK e J K) K (fun x φ η h => ?_) φ η (wpN_loop I m h0 step)
  cases x with
  | normal => exact h
  | ret => exact h
  | exit i =>
    have h : (if i = e then J φ η else K (.exit i) φ η) := h
    by_cases q : i = e
    · rw [if_pos q] at h; rw [q]; exact after _ _ h
    · rw [if_neg q] at h; exact h
end
end Go.Eng
namespace Go.Proofs.YtjljolnhmmbkoaaDoor
open Go.Eng Go.Plain
set_option autoImplicit false
set_option maxRecDepth 100000
variable {nat : ∀ [Deep], Nats}
theorem n47_then (U : Usual nat) {η : HN} {rp : Nat} {l : List Nat} {bad : Bool} {Q : AV → HN → Prop} (R : RdrAt η rp l bad) (hx : ∀ x ∈ l, x < 256) (hl : l.length ≤ 1000000000)
    (h : ∀ η', RdrAt η' rp (nF l bad).2.1 (nF l bad).2.2 → η.nx = η'.nx → (∀ b, b ≠ rp → η'.f b = η.f b) → Q (.int .i64 (nF l bad).1) η') : ∃ v η', CallN Tryd.prog nat 47 [.ptr rp 0] η v η' ∧ Q v η' := by
  refine call_of (PT := pl47) Tryd.func47 rfl (U 47 (by decide)) ok47 rfl ?_
  simp -implicitDefEqProofs (disch := omega) only [go_sem]
  refine thenN_call (refU_then U R hx (by omega) fun η1 R1 n1 k1 => ?_)
  have hv := rdG_lt l bad
  have hl1 := rdG_len l bad
  unfold nF at h
  generalize rdG l bad = g at *
  obtain ⟨u, l1, bad1⟩ := g
  dsimp only at *
  obtain ⟨y, r1, r2, r3⟩ := R1
  have ly := fun e w => r3.len (e := e) (w := w) (η' := η1) (by omega)
  by_cases hc : l1.length < u
  · rw [if_pos hc] at h
    simp -implicitDefEqProofs (disch := omega) only [go_sem, r1, ly]
    refine h _ ⟨y, by show (if rp = rp then _ else _) = _; rw [if_pos rfl], r2, r3.keep (Nat.le_refl _) fun b _ hb => by show (if b = rp then _ else _) = _; rw [if_neg hb]⟩ n1 fun b hb => by show (if b = rp then _ else _) = _; rw [if_neg hb]; exact k1 b hb
  · rw [if_neg hc] at h
    simp -implicitDefEqProofs (disch := omega) only [go_sem, r1, ly]
    exact h _ ⟨y, r1, r2, r3⟩ n1 k1
theorem rdB_t (n : Nat) (l : List Nat) : rdB n l true = ([], l, true) := by cases n <;> rfl
set_option maxHeartbeats 1000000 in
theorem kinds46_then (U : Usual nat) {η : HN} {rp : Nat} {l : List Nat} {bad : Bool} {Q : AV → HN → Prop} (R : RdrAt η rp l bad) (hx : ∀ x ∈ l, x < 256) (hl : l.length ≤ 1000000000)
    (h : ∀ v η', OwnA 1 η.nx η' v (lstB l bad).1.length ((lstB l bad).1.map (.int .i64)) → RdrAt η' rp (lstB l bad).2.1 (lstB l bad).2.2 → KpR rp η η' → Q v η') : ∃ v η', CallN Tryd.prog nat 46 [.ptr rp 0] η v η' ∧ Q v η' := by
  refine call_of (PT := pl46) Tryd.func46 rfl (U 46 (by decide)) ok46 rfl ?_
  have hrp : rp < η.nx := by obtain ⟨_, _, h, _⟩ := R; exact h
  simp -implicitDefEqProofs (disch := omega) only [go_sem]
  refine thenN_call (n47_then U R hx hl fun η1 R1 n1 k1 => ?_)
  unfold lstB at h
  obtain ⟨a1, a2, a3⟩ := nF_le l bad
  generalize nF l bad = g at *
  obtain ⟨n, l1, bad1⟩ := g
  dsimp only at *
  have hx1 : ∀ x ∈ l1, x < 256 := fun x h => hx x (a3 x h)
  have K1 : KpR rp η η1 := .ofRd n1 k1
  simp -implicitDefEqProofs (disch := omega) only [go_sem]
  obtain ⟨I, hI⟩ : ∃ I : Nat → FN → HN → Prop, ∀ m φ ζ, I m φ ζ ↔ ∃ i x xs lr br, m = n - i ∧ i ≤ n ∧ φ 0 = .ptr rp 0 ∧ φ 3 = x ∧ φ 4 = .int .i64 n ∧ φ 5 = .int .i64 i ∧ xs.length = i ∧ OwnA 1 η.nx ζ x i (xs.map (.int .i64)) ∧ RdrAt ζ rp lr br ∧ KpR rp η ζ ∧ (xs ++ (rdB (n - i) lr br).1, (rdB (n - i) lr br).2) = rdB n l1 bad1 ∧ (∀ y ∈ lr, y < 256) ∧ lr.length ≤ l1.length := ⟨_, fun _ _ _ => Iff.rfl⟩
  refine wpN_loop I n ((hI _ _ _).2 ⟨0, .nilslice, [], l1, bad1, rfl, Nat.zero_le _, rfl, rfl, rfl, rfl, rfl, OwnA.nil, R1, K1, rfl, hx1, Nat.le_refl _⟩) ?_
  intro m φ ζ hi
  obtain ⟨i, x, xs, lr, br, hm, hi, p0, p3, p4, p5, hxs, o, R, K, ht, hxr, hlr⟩ := (hI _ _ _).1 hi
  have nK := K.1
  by_cases hlt : i < n
  · have R' := R
    obtain ⟨y, r1, r2, r3⟩ := R'
    cases br with
    | true =>
      simp -implicitDefEqProofs (disch := omega) only [go_sem, p0, p3, p4, p5, r1]
      rw [rdB_t, List.append_nil] at ht
      rw [← ht] at h
      refine h _ _ ?_ R K
      rw [hxs]
      exact o
    | false =>
      obtain ⟨q, hq⟩ : ∃ q, n - i = q + 1 := ⟨n - i - 1, by omega⟩
      rw [hq, rdB, if_neg (by decide)] at ht
      simp -implicitDefEqProofs (disch := omega) only [go_sem, p0, p3, p4, p5, r1]
      refine thenN_call (refI_then U R hxr (by omega) fun ζ2 R2 n2 k2 => ?_)
      have K2 := KpR.ofRd n2 k2
      have hrr := rdG_rest lr false
      have hrl := rdG_len lr false
      generalize rdG lr false = g at *
      simp -implicitDefEqProofs (disch := omega) only [go_sem, p0, p3, p4, p5]
      refine thenN_app (w := 8) (base := η.nx) (by decide) ((OwnA.keepR o K2 hrp).ext (.new (Nat.le_refl _))) (RdA.lit (c := .kn 1)) (by omega) (by show η.nx ≤ ζ2.nx + 1; omega) fun x3 ζ3 o3 E3 => ?_
      have n3 : ζ2.nx + 1 ≤ ζ3.nx := E3.1
      have g3 : ∀ b, b < η.nx → ζ3.f b = ζ2.f b := fun b hb => (E3.2 b hb).trans (by show (if b = ζ2.nx then _ else _) = _; rw [if_neg (by omega)])
      simp -implicitDefEqProofs (disch := omega) only [go_sem, p0, p3, p4, p5]
      refine ⟨n - (i + 1), by omega, (hI _ _ _).2 ⟨i + 1, x3, xs ++ [uz g.1], g.2.1, g.2.2, rfl, by omega, p0, rfl, p4, rfl, by rw [List.length_append]; simp; omega, ?_, R2.keepB (by omega) fun b hb => g3 b (by omega), ⟨by omega, fun b hb hr => (g3 b hb).trans ((K2.2 b (by omega) hr).trans (K.2 b hb hr))⟩, ?_, fun y hy => hxr y (hrr y hy), by omega⟩⟩
      · rw [List.map_append]; exact o3
      · rw [show n - (i + 1) = q by omega, ← ht, List.append_assoc]; rfl
  · obtain rfl : i = n := by omega
    simp -implicitDefEqProofs (disch := omega) only [go_sem, p0, p3, p4, p5]
    rw [Nat.sub_self] at ht
    have ht : (xs ++ [], lr, br) = rdB i l1 bad1 := ht
    rw [List.append_nil] at ht
    rw [← ht] at h
    refine h _ _ ?_ R K
    rw [hxs]
    exact o
end Go.Proofs.YtjljolnhmmbkoaaDoor
