/- What is proved: code's numbers (of kinds, int64s and ints) are written as pack.I writes them. a program's values; whether it is more than is asked of. lists of numbers, of instructions, written. sums of bytes; a program, written. a program, written. Conditions: as each theorem says. -/
import Derived.Test.YtjljolnhmmbkoaaDoorCodA
import Derived.Test.YtjljolnhmmbkoaaDoorWM
set_option linter.unusedVariables false
set_option linter.unusedSimpArgs false
set_option linter.unusedSectionVars false
namespace Go.Proofs.YtjljolnhmmbkoaaDoor
open Go.Eng Go.Plain
set_option autoImplicit false
theorem num32_then {nat : ∀ [Deep], Nats} (U : Usual nat) {η : HN} {y : AV} {l : List Nat} {u : Nat} {Q : AV → HN → Prop} (hy : RdA 1 η y l.length (u8s l)) (hl : l.length ≤ 1099511627776) (hu : u < 18446744073709551616)
    (h : ∀ v η', OwnK η.nx η' v (l.length + (uv (zz u)).length) (l.length + 10) (u8s (l ++ uv (zz u))) → ExtB η.nx η η' → Q v η') : ∃ v η', CallN Tryd.prog nat 32 [y, .int .i64 u] η v η' ∧ Q v η' := by
  refine call_of (PT := pl32) Tryd.func32 rfl (U 32 (by decide)) ok32 rfl ?_
  simp -implicitDefEqProofs (disch := omega) only [go_sem]
  refine thenN_call (packI_then U hy hl hu fun v η' o E => ?_)
  simp -implicitDefEqProofs (disch := omega) only [go_sem]
  exact h v η' o E
theorem num34_then {nat : ∀ [Deep], Nats} (U : Usual nat) {η : HN} {y : AV} {l : List Nat} {u : Nat} {Q : AV → HN → Prop} (hy : RdA 1 η y l.length (u8s l)) (hl : l.length ≤ 1099511627776) (hu : u < 18446744073709551616)
    (h : ∀ v η', OwnK η.nx η' v (l.length + (uv (zz u)).length) (l.length + 10) (u8s (l ++ uv (zz u))) → ExtB η.nx η η' → Q v η') : ∃ v η', CallN Tryd.prog nat 34 [y, .int .i64 u] η v η' ∧ Q v η' := by
  refine call_of (PT := pl34) Tryd.func34 rfl (U 34 (by decide)) ok34 rfl ?_
  simp -implicitDefEqProofs (disch := omega) only [go_sem]
  refine thenN_call (packI_then U hy hl hu fun v η' o E => ?_)
  simp -implicitDefEqProofs (disch := omega) only [go_sem]
  exact h v η' o E
theorem num53_then {nat : ∀ [Deep], Nats} (U : Usual nat) {η : HN} {y : AV} {l : List Nat} {u : Nat} {Q : AV → HN → Prop} (hy : RdA 1 η y l.length (u8s l)) (hl : l.length ≤ 1099511627776) (hu : u < 18446744073709551616)
    (h : ∀ v η', OwnK η.nx η' v (l.length + (uv (zz u)).length) (l.length + 10) (u8s (l ++ uv (zz u))) → ExtB η.nx η η' → Q v η') : ∃ v η', CallN Tryd.prog nat 53 [y, .int .i64 u] η v η' ∧ Q v η' := by
  refine call_of (PT := pl53) Tryd.func53 rfl (U 53 (by decide)) ok53 rfl ?_
  simp -implicitDefEqProofs (disch := omega) only [go_sem]
  refine thenN_call (packI_then U hy hl hu fun v η' o E => ?_)
  simp -implicitDefEqProofs (disch := omega) only [go_sem]
  exact h v η' o E
end Go.Proofs.YtjljolnhmmbkoaaDoor
namespace Go.Proofs.YtjljolnhmmbkoaaDoor
open Go.Eng Go.Plain
set_option autoImplicit false
set_option maxRecDepth 100000
variable {nat : ∀ [Deep], Nats}
/-- a program's six values -/
structure PV where
  z1 : AV
  z2 : AV
  z3 : AV
  z4 : AV
  z5 : AV
  z6 : AV
abbrev PV.cells (z : PV) : List AV := [z.z1, z.z2, z.z3, z.z4, z.z5, z.z6]
def RdC (η : HN) (y : AV) (l : List Ins) : Prop := RdR 4 η y (l.map Ins.cells)
/-- they read as the lists do -/
structure IsP (η : HN) (z : PV) (p : PD) : Prop where
  ins : RdI .i64 η z.z1 p.ins
  outs : RdI .i64 η z.z2 p.outs
  slots : RdI .i64 η z.z3 p.slots
  mems : RdI .i64 η z.z4 p.mems
  consts : RdI .i64 η z.z5 p.consts
  code : RdC η z.z6 p.code
/-- numbers are residues, lists are not too long -/
structure Fine (p : PD) : Prop where
  ins : p.ins.length ≤ 1099511627776 ∧ ∀ n ∈ p.ins, n < 18446744073709551616
  outs : p.outs.length ≤ 1099511627776 ∧ ∀ n ∈ p.outs, n < 18446744073709551616
  slots : p.slots.length ≤ 1099511627776 ∧ ∀ n ∈ p.slots, n < 18446744073709551616
  mems : p.mems.length ≤ 1099511627776 ∧ ∀ n ∈ p.mems, n < 18446744073709551616
  consts : p.consts.length ≤ 1099511627776 ∧ ∀ n ∈ p.consts, n < 18446744073709551616
  code : p.code.length ≤ 1099511627776 ∧ ∀ i ∈ p.code, i.op < 18446744073709551616 ∧ i.a < 18446744073709551616 ∧ i.b < 18446744073709551616 ∧ i.c < 18446744073709551616
theorem rdI_ext {k : IntKind} {η η' : HN} {y : AV} {l : List Nat} (h : RdI k η y l) (e : ExtB η.nx η η') : RdI k η' y l := RdR.ext (base := η.nx) h e
theorem IsP.ext {η η' : HN} {z : PV} {p : PD} (h : IsP η z p) (e : ExtB η.nx η η') : IsP η' z p :=
  ⟨rdI_ext h.ins e, rdI_ext h.outs e, rdI_ext h.slots e, rdI_ext h.mems e, rdI_ext h.consts e, RdR.ext (base := η.nx) h.code e⟩
theorem rdI_len {k : IntKind} {η : HN} {y : AV} {l : List Nat} (h : RdI k η y l) (hl : l.length ≤ 1099511627776) : ∀ e y' η', lenN (.slice e 1 y') y η' = .ok (.int .i64 l.length) η' := fun e y' η' => by
  have := RdR.len (e := e) (y' := y') (η' := η') h (by simp; omega)
  simpa using this
theorem rdC_len {η : HN} {y : AV} {l : List Ins} (h : RdC η y l) (hl : l.length ≤ 1099511627776) : ∀ e y' η', lenN (.slice e 4 y') y η' = .ok (.int .i64 l.length) η' := fun e y' η' => by
  have := RdR.len (e := e) (y' := y') (η' := η') h (by simp; omega)
  simpa using this
def rowsC (l : List Ins) : List AV := (l.map Ins.cells).flatten
theorem cells4 (l : List Ins) : ∀ x ∈ l.map Ins.cells, x.length = 4 := by intro x hx; obtain ⟨i, _, rfl⟩ := List.mem_map.1 hx; rfl
theorem rowsC_len (l : List Ins) : (rowsC l).length = l.length * 4 := by unfold rowsC; rw [flat_len _ (cells4 l), List.length_map]
theorem rowsC_set (l : List Ins) (i : Nat) (x : Ins) (h : i < l.length) : setsL (rowsC l) (i * 4) x.cells = rowsC (l.set i x) := by
  unfold rowsC; rw [setsL_flat (show x.cells.length = 4 from rfl) _ i (cells4 l) (by simpa using h), List.map_set]
theorem rowsC_rep (n : Nat) : repL n [AV.int .i64 0, .int .i64 0, .int .i64 0, .int .i64 0] = rowsC (List.replicate n ⟨0, 0, 0, 0⟩) := by unfold rowsC repL; rw [List.map_replicate]; rfl
theorem rdC_blk {η : HN} {b : Nat} {cap : Cp} {ro : Bool} (l : List Ins) (hb : η.f b = .live ro (rowsC l)) (hn : b < η.nx) : RdC η (.slice b 0 l.length cap) l := by
  have := RdR.blk (cap := cap) _ hb hn (cells4 l)
  rw [List.length_map] at this
  exact this
theorem rdI_nil {k : IntKind} {η : HN} : RdI k η .nilslice [] := .inl ⟨rfl, .inl rfl⟩
theorem rep_map {k : IntKind} {n x : Nat} : List.replicate n (AV.int k x) = (List.replicate n x).map (.int k) := by rw [List.map_replicate]
/-- numbers are residues -/
structure Resd (p : PD) : Prop where
  ins : p.ins.length ≤ 9223372036854775807 ∧ ∀ n ∈ p.ins, n < 18446744073709551616
  outs : p.outs.length ≤ 9223372036854775807 ∧ ∀ n ∈ p.outs, n < 18446744073709551616
  slots : p.slots.length ≤ 9223372036854775807 ∧ ∀ n ∈ p.slots, n < 18446744073709551616
  mems : p.mems.length ≤ 9223372036854775807 ∧ ∀ n ∈ p.mems, n < 18446744073709551616
  consts : p.consts.length ≤ 9223372036854775807 ∧ ∀ n ∈ p.consts, n < 18446744073709551616
  code : p.code.length ≤ 9223372036854775807 ∧ ∀ i ∈ p.code, i.op < 18446744073709551616 ∧ i.a < 18446744073709551616 ∧ i.b < 18446744073709551616 ∧ i.c < 18446744073709551616
def greatF (p : PD) : Bool := decide (70 < p.ins.length ∨ 70 < p.outs.length ∨ 200 < p.slots.length ∨ 100 < p.mems.length ∨ 100 < p.consts.length ∨ 400 < p.code.length)
theorem Resd.fine {p : PD} (h : Resd p) (g : greatF p = false) : Fine p := by
  unfold greatF at g
  have g := of_decide_eq_false g
  exact ⟨⟨by omega, h.ins.2⟩, ⟨by omega, h.outs.2⟩, ⟨by omega, h.slots.2⟩, ⟨by omega, h.mems.2⟩, ⟨by omega, h.consts.2⟩, ⟨by omega, h.code.2⟩⟩
theorem rdI_len9 {k : IntKind} {η : HN} {y : AV} {l : List Nat} (h : RdI k η y l) (hl : l.length ≤ 9223372036854775807) : ∀ e y' η', lenN (.slice e 1 y') y η' = .ok (.int .i64 l.length) η' := fun e y' η' => by
  have := RdR.len (e := e) (y' := y') (η' := η') h (by simpa using hl)
  simpa using this
theorem rdC_len9 {η : HN} {y : AV} {l : List Ins} (h : RdC η y l) (hl : l.length ≤ 9223372036854775807) : ∀ e y' η', lenN (.slice e 4 y') y η' = .ok (.int .i64 l.length) η' := fun e y' η' => by
  have := RdR.len (e := e) (y' := y') (η' := η') h (by simpa using hl)
  simpa using this
set_option maxHeartbeats 1000000 in
theorem great_then (U : Usual nat) {η : HN} {z : PV} {p : PD} {Q : AV → HN → Prop} (hp : IsP η z p) (hr : Resd p) (h : ∀ η', ExtB η.nx η η' → Q (.bool (greatF p)) η') : ∃ v η', CallN Tryd.prog nat 14 [.agg z.cells] η v η' ∧ Q v η' := by
  refine call_of (PT := pl14) Tryd.func14 rfl (U 14 (by decide)) ok14 rfl ?_
  have l1 := rdI_len9 hp.ins hr.ins.1
  have l2 := rdI_len9 hp.outs hr.outs.1
  have l3 := rdI_len9 hp.slots hr.slots.1
  have l4 := rdI_len9 hp.mems hr.mems.1
  have l5 := rdI_len9 hp.consts hr.consts.1
  have l6 := rdC_len9 hp.code hr.code.1
  have b1 := hr.ins.1
  have b2 := hr.outs.1
  have b3 := hr.slots.1
  have b4 := hr.mems.1
  have b5 := hr.consts.1
  have b6 := hr.code.1
  have := h _ (extN (y := .live false z.cells) (.refl _ _))
  clear h
  unfold greatF at this
  by_cases s1 : 70 < p.ins.length
  · rw [decide_eq_true (by omega)] at this
    simp -implicitDefEqProofs (disch := omega) only [go_sem, l1, l2, l3, l4, l5, l6]
    exact this
  by_cases s2 : 70 < p.outs.length
  · rw [decide_eq_true (by omega)] at this
    simp -implicitDefEqProofs (disch := omega) only [go_sem, l1, l2, l3, l4, l5, l6]
    exact this
  by_cases s3 : 200 < p.slots.length
  · rw [decide_eq_true (by omega)] at this
    simp -implicitDefEqProofs (disch := omega) only [go_sem, l1, l2, l3, l4, l5, l6]
    exact this
  by_cases s4 : 100 < p.mems.length
  · rw [decide_eq_true (by omega)] at this
    simp -implicitDefEqProofs (disch := omega) only [go_sem, l1, l2, l3, l4, l5, l6]
    exact this
  by_cases s5 : 100 < p.consts.length
  · rw [decide_eq_true (by omega)] at this
    simp -implicitDefEqProofs (disch := omega) only [go_sem, l1, l2, l3, l4, l5, l6]
    exact this
  by_cases s6 : 400 < p.code.length
  · rw [decide_eq_true (by omega)] at this
    simp -implicitDefEqProofs (disch := omega) only [go_sem, l1, l2, l3, l4, l5, l6]
    exact this
  rw [decide_eq_false (by omega)] at this
  simp -implicitDefEqProofs (disch := omega) only [go_sem, l1, l2, l3, l4, l5, l6]
  exact this
end Go.Proofs.YtjljolnhmmbkoaaDoor
namespace Go.Proofs.YtjljolnhmmbkoaaDoor
open Go.Eng Go.Plain
set_option autoImplicit false
set_option maxRecDepth 100000
variable {nat : ∀ [Deep], Nats}
/-- bytes that pack's writers left: in a block of their own, with some room -/
def OwnZ (base : Nat) (η : HN) (x : AV) (l : List Nat) : Prop := ∃ c, c ≤ l.length + 10 ∧ OwnK base η x l.length c (u8s l)
theorem OwnZ.rd {base : Nat} {η : HN} {x : AV} {l : List Nat} (h : OwnZ base η x l) : RdA 1 η x l.length (u8s l) := by
  obtain ⟨c, _, h⟩ := h
  exact h.rd
theorem OwnZ.mono {base base' : Nat} {η : HN} {x : AV} {l : List Nat} (h : OwnZ base η x l) (hb : base' ≤ base) : OwnZ base' η x l := by
  obtain ⟨c, hc, b, rest, h1, h2, h3⟩ := h
  exact ⟨c, hc, b, rest, h1, by omega, h3⟩
theorem OwnZ.of {base : Nat} {η : HN} {x : AV} {l : List Nat} {n c : Nat} (h : OwnK base η x n c (u8s l)) (hn : n = l.length) (hc : c ≤ l.length + 10) : OwnZ base η x l := by
  subst hn
  exact ⟨c, hc, h⟩
theorem nums_take {ks : List Nat} {i : Nat} (h : i < ks.length) : nums (ks.take (i + 1)) = nums (ks.take i) ++ uv (zz ks[i]) := by
  rw [List.take_succ_eq_append_getElem h, nums_app]
  congr 1
  unfold nums
  simp
theorem take_len {α : Type} {l : List α} {i : Nat} (h : i ≤ l.length) : (l.take i).length = i := by rw [List.length_take]; omega
theorem ext_rdI {k : IntKind} {η η' : HN} {y : AV} {l : List Nat} (h : RdI k η y l) (e : ExtB η.nx η η') : RdI k η' y l := RdR.ext (base := η.nx) h e
set_option maxHeartbeats 1000000 in
theorem put31_then (U : Usual nat) {η : HN} {y z : AV} {l ks : List Nat} {Q : AV → HN → Prop} (hy : RdA 1 η y l.length (u8s l)) (hz : RdI .i64 η z ks) (hl : l.length + 10 * ks.length + 10 ≤ 1099511627776) (hk : ∀ n ∈ ks, n < 18446744073709551616)
    (h : ∀ v η', OwnZ η.nx η' v (l ++ lst ks) → ExtB η.nx η η' → Q v η') : ∃ v η', CallN Tryd.prog nat 31 [y, z, .func 32 [] []] η v η' ∧ Q v η' := by
  refine call_of (PT := pl31) Tryd.func31 rfl (U 31 (by decide)) ok31 rfl ?_
  have lz := rdI_len hz (by omega)
  simp -implicitDefEqProofs (disch := omega) only [go_sem, lz]
  refine thenN_call (packU_then U hy (by omega) (by omega) fun v1 η1 o1 E1 => ?_)
  have hu := uv_len ks.length
  simp -implicitDefEqProofs (disch := omega) only [go_sem, lz]
  obtain ⟨I, hI⟩ : ∃ I : Nat → FN → HN → Prop, ∀ m φ ζ, I m φ ζ ↔ ∃ i x, m = ks.length - i ∧ i ≤ ks.length ∧ φ 0 = x ∧ φ 2 = .func 32 [] [] ∧ φ 14 = z ∧ φ 15 = .int .i64 ks.length ∧ φ 16 = .int .i64 i ∧ OwnZ η.nx ζ x (l ++ (uv ks.length ++ nums (ks.take i))) ∧ ExtB η.nx η ζ := ⟨_, fun _ _ _ => Iff.rfl⟩
  refine wpN_loop I ks.length ((hI _ _ _).2 ⟨0, v1, rfl, Nat.zero_le _, rfl, rfl, rfl, rfl, rfl, .of (n := l.length + (uv ks.length).length) (c := l.length + 10) (by simpa [nums] using o1) (by simp [nums]) (by simp [nums]), E1⟩) ?_
  intro m φ ζ hi
  obtain ⟨i, x, hm, hi, p0, p2, p14, p15, p16, o, E⟩ := (hI _ _ _).1 hi
  have hnl := (nums_len (ks.take i)).2
  rw [take_len hi] at hnl
  have hlen : (l ++ (uv ks.length ++ nums (ks.take i))).length ≤ 1099511627776 := by rw [List.length_append, List.length_append]; omega
  by_cases hlt : i < ks.length
  · obtain ⟨b, off, cap, ro, row, ze, hb, hbn, hr⟩ := (ext_rdI hz E).at hlt
    rw [ze] at p14
    simp -implicitDefEqProofs (disch := omega) only [go_sem, p0, p2, p14, p15, p16, hb, hr]
    refine thenN_call (num32_then U o.rd hlen (hk _ (List.getElem_mem hlt)) fun v2 η2 o2 E2 => ?_)
    simp -implicitDefEqProofs (disch := omega) only [go_sem, p0, p2, p14, p15, p16]
    refine ⟨ks.length - (i + 1), by omega, (hI _ _ _).2 ⟨i + 1, v2, rfl, by omega, rfl, p2, by rw [ze]; exact p14, p15, rfl, ?_, E.trans (E2.mono E.1)⟩⟩
    rw [nums_take hlt, ← List.append_assoc (uv ks.length), ← List.append_assoc l]
    exact (OwnZ.of o2 (by rw [List.length_append (bs := uv (zz ks[i]))]) (by rw [List.length_append (bs := uv (zz ks[i]))]; omega)).mono E.1
  · obtain rfl : i = ks.length := by omega
    simp -implicitDefEqProofs (disch := omega) only [go_sem, p0, p2, p14, p15, p16]
    rw [List.take_length] at o
    exact h _ _ o E
set_option maxHeartbeats 1000000 in
theorem put33_then (U : Usual nat) {η : HN} {y z : AV} {l ks : List Nat} {Q : AV → HN → Prop} (hy : RdA 1 η y l.length (u8s l)) (hz : RdI .i64 η z ks) (hl : l.length + 10 * ks.length + 10 ≤ 1099511627776) (hk : ∀ n ∈ ks, n < 18446744073709551616)
    (h : ∀ v η', OwnZ η.nx η' v (l ++ lst ks) → ExtB η.nx η η' → Q v η') : ∃ v η', CallN Tryd.prog nat 33 [y, z, .func 34 [] []] η v η' ∧ Q v η' := by
  refine call_of (PT := pl33) Tryd.func33 rfl (U 33 (by decide)) ok33 rfl ?_
  have lz := rdI_len hz (by omega)
  simp -implicitDefEqProofs (disch := omega) only [go_sem, lz]
  refine thenN_call (packU_then U hy (by omega) (by omega) fun v1 η1 o1 E1 => ?_)
  have hu := uv_len ks.length
  simp -implicitDefEqProofs (disch := omega) only [go_sem, lz]
  obtain ⟨I, hI⟩ : ∃ I : Nat → FN → HN → Prop, ∀ m φ ζ, I m φ ζ ↔ ∃ i x, m = ks.length - i ∧ i ≤ ks.length ∧ φ 0 = x ∧ φ 2 = .func 34 [] [] ∧ φ 14 = z ∧ φ 15 = .int .i64 ks.length ∧ φ 16 = .int .i64 i ∧ OwnZ η.nx ζ x (l ++ (uv ks.length ++ nums (ks.take i))) ∧ ExtB η.nx η ζ := ⟨_, fun _ _ _ => Iff.rfl⟩
  refine wpN_loop I ks.length ((hI _ _ _).2 ⟨0, v1, rfl, Nat.zero_le _, rfl, rfl, rfl, rfl, rfl, .of (n := l.length + (uv ks.length).length) (c := l.length + 10) (by simpa [nums] using o1) (by simp [nums]) (by simp [nums]), E1⟩) ?_
  intro m φ ζ hi
  obtain ⟨i, x, hm, hi, p0, p2, p14, p15, p16, o, E⟩ := (hI _ _ _).1 hi
  have hnl := (nums_len (ks.take i)).2
  rw [take_len hi] at hnl
  have hlen : (l ++ (uv ks.length ++ nums (ks.take i))).length ≤ 1099511627776 := by rw [List.length_append, List.length_append]; omega
  by_cases hlt : i < ks.length
  · obtain ⟨b, off, cap, ro, row, ze, hb, hbn, hr⟩ := (ext_rdI hz E).at hlt
    rw [ze] at p14
    simp -implicitDefEqProofs (disch := omega) only [go_sem, p0, p2, p14, p15, p16, hb, hr]
    refine thenN_call (num34_then U o.rd hlen (hk _ (List.getElem_mem hlt)) fun v2 η2 o2 E2 => ?_)
    simp -implicitDefEqProofs (disch := omega) only [go_sem, p0, p2, p14, p15, p16]
    refine ⟨ks.length - (i + 1), by omega, (hI _ _ _).2 ⟨i + 1, v2, rfl, by omega, rfl, p2, by rw [ze]; exact p14, p15, rfl, ?_, E.trans (E2.mono E.1)⟩⟩
    rw [nums_take hlt, ← List.append_assoc (uv ks.length), ← List.append_assoc l]
    exact (OwnZ.of o2 (by rw [List.length_append (bs := uv (zz ks[i]))]) (by rw [List.length_append (bs := uv (zz ks[i]))]; omega)).mono E.1
  · obtain rfl : i = ks.length := by omega
    simp -implicitDefEqProofs (disch := omega) only [go_sem, p0, p2, p14, p15, p16]
    rw [List.take_length] at o
    exact h _ _ o E
theorem flds_take {c : List Ins} {i : Nat} (h : i < c.length) : nums (flds (c.take (i + 1))) = nums (flds (c.take i)) ++ (uv (zz c[i].op) ++ (uv (zz c[i].a) ++ (uv (zz c[i].b) ++ uv (zz c[i].c)))) := by
  rw [List.take_succ_eq_append_getElem h]
  unfold flds
  rw [List.map_append, List.flatten_append, nums_app]
  congr 1
  unfold nums
  simp
set_option maxHeartbeats 1000000 in
theorem instr_then (U : Usual nat) {η : HN} {y : AV} {l : List Nat} {x : Ins} {Q : AV → HN → Prop} (hy : RdA 1 η y l.length (u8s l)) (hl : l.length + 40 ≤ 1099511627776) (hu : x.op < 18446744073709551616 ∧ x.a < 18446744073709551616 ∧ x.b < 18446744073709551616 ∧ x.c < 18446744073709551616)
    (h : ∀ v η', OwnZ η.nx η' v (l ++ (uv (zz x.op) ++ (uv (zz x.a) ++ (uv (zz x.b) ++ uv (zz x.c))))) → ExtB η.nx η η' → Q v η') : ∃ v η', CallN Tryd.prog nat 36 [y, .agg x.cells] η v η' ∧ Q v η' := by
  refine call_of (PT := pl36) Tryd.func36 rfl (U 36 (by decide)) ok36 rfl ?_
  obtain ⟨op, a, b, c⟩ := x
  obtain ⟨h0, h1, h2, h3⟩ := hu
  unfold Ins.cells
  dsimp only at *
  have u0 := uv_len (zz op)
  have u1 := uv_len (zz a)
  have u2 := uv_len (zz b)
  have u3 := uv_len (zz c)
  simp -implicitDefEqProofs (disch := omega) only [go_sem]
  refine loop_n 5 ?_
  obtain ⟨ζ, hζ⟩ : ∃ ζ, ζ = (η.new (.live false [AV.int .i64 op, .int .i64 a, .int .i64 b, .int .i64 c])).new (.live false [AV.int .i64 op, .int .i64 a, .int .i64 b, .int .i64 c]) := ⟨_, rfl⟩
  have E0 : ExtB η.nx η ζ := by rw [hζ]; exact extN (extN (.refl _ _))
  have hzn : ζ.nx = η.nx + 2 := by rw [hζ]; rfl
  have hf : ζ.f (η.nx + 1) = .live false [AV.int .i64 op, .int .i64 a, .int .i64 b, .int .i64 c] := by rw [hζ]; show (if η.nx + 1 = η.nx + 1 then _ else _) = _; rw [if_pos rfl]
  simp -implicitDefEqProofs (disch := omega) only [go_sem, ← hζ, hf]
  refine thenN_call (num53_then U (hy.ext E0) (by omega) h0 fun v1 η1 o1 E1 => ?_)
  have hf1 := (E1.2 (η.nx + 1) (by omega)).trans hf
  simp -implicitDefEqProofs (disch := omega) only [go_sem, hf1]
  have n1 := E1.1
  rw [← List.length_append] at o1
  refine thenN_call (num53_then U o1.rd (by rw [List.length_append]; omega) h1 fun v2 η2 o2 E2 => ?_)
  have hf2 := (E2.2 (η.nx + 1) (by omega)).trans hf1
  simp -implicitDefEqProofs (disch := omega) only [go_sem, hf2]
  have n2 := E2.1
  rw [← List.length_append] at o2
  refine thenN_call (num53_then U o2.rd (by rw [List.length_append, List.length_append]; omega) h2 fun v3 η3 o3 E3 => ?_)
  have hf3 := (E3.2 (η.nx + 1) (by omega)).trans hf2
  simp -implicitDefEqProofs (disch := omega) only [go_sem, hf3]
  have n3 := E3.1
  rw [← List.length_append] at o3
  refine thenN_call (num53_then U o3.rd (by rw [List.length_append, List.length_append, List.length_append]; omega) h3 fun v4 η4 o4 E4 => ?_)
  have hf4 := (E4.2 (η.nx + 1) (by omega)).trans hf3
  simp -implicitDefEqProofs (disch := omega) only [go_sem, hf4]
  rw [← List.length_append] at o4
  refine h _ _ ?_ (E0.trans ((E1.mono (by omega)).trans ((E2.mono (by omega)).trans ((E3.mono (by omega)).trans (E4.mono (by omega))))))
  have e : l ++ (uv (zz op) ++ (uv (zz a) ++ (uv (zz b) ++ uv (zz c)))) = (((l ++ uv (zz op)) ++ uv (zz a)) ++ uv (zz b)) ++ uv (zz c) := by simp only [List.append_assoc]
  rw [e]
  exact (OwnZ.of o4 rfl (by rw [List.length_append (bs := uv (zz c))]; omega)).mono (by omega)
theorem rdC_at {η : HN} {y : AV} {l : List Ins} (h : RdC η y l) {i : Nat} (hi : i < l.length) : ∃ b off cap ro row, y = .slice b off l.length cap ∧ η.f b = .live ro row ∧ b < η.nx ∧ off + i * 4 + 4 ≤ row.length ∧ (row.drop (off + i * 4)).take 4 = l[i].cells := by
  obtain ⟨b, off, cap, ro, row, h1, h2, h3, h4, h5⟩ := RdR.at h (i := i) (by simpa using hi)
  rw [List.length_map] at h1
  exact ⟨b, off, cap, ro, row, h1, h2, h3, h4, by rw [h5, List.getElem_map]⟩
set_option maxHeartbeats 1000000 in
theorem put35_then (U : Usual nat) {η : HN} {y z : AV} {l : List Nat} {c : List Ins} {Q : AV → HN → Prop} (hy : RdA 1 η y l.length (u8s l)) (hz : RdC η z c) (hl : l.length + 40 * c.length + 50 ≤ 1099511627776) (hk : ∀ i ∈ c, i.op < 18446744073709551616 ∧ i.a < 18446744073709551616 ∧ i.b < 18446744073709551616 ∧ i.c < 18446744073709551616)
    (h : ∀ v η', OwnZ η.nx η' v (l ++ lstC c) → ExtB η.nx η η' → Q v η') : ∃ v η', CallN Tryd.prog nat 35 [y, z, .func 36 [] []] η v η' ∧ Q v η' := by
  refine call_of (PT := pl35) Tryd.func35 rfl (U 35 (by decide)) ok35 rfl ?_
  have lz := rdC_len hz (by omega)
  simp -implicitDefEqProofs (disch := omega) only [go_sem, lz]
  refine thenN_call (packU_then U hy (by omega) (by omega) fun v1 η1 o1 E1 => ?_)
  have hu := uv_len c.length
  simp -implicitDefEqProofs (disch := omega) only [go_sem, lz]
  obtain ⟨I, hI⟩ : ∃ I : Nat → FN → HN → Prop, ∀ m φ ζ, I m φ ζ ↔ ∃ i x, m = c.length - i ∧ i ≤ c.length ∧ φ 0 = x ∧ φ 2 = .func 36 [] [] ∧ φ 14 = z ∧ φ 15 = .int .i64 c.length ∧ φ 16 = .int .i64 i ∧ OwnZ η.nx ζ x (l ++ (uv c.length ++ nums (flds (c.take i)))) ∧ ExtB η.nx η ζ := ⟨_, fun _ _ _ => Iff.rfl⟩
  refine wpN_loop I c.length ((hI _ _ _).2 ⟨0, v1, rfl, Nat.zero_le _, rfl, rfl, rfl, rfl, rfl, .of (n := l.length + (uv c.length).length) (c := l.length + 10) (by simpa [nums, flds] using o1) (by simp [nums, flds]) (by simp [nums, flds]), E1⟩) ?_
  intro m φ ζ hi
  obtain ⟨i, x, hm, hi, p0, p2, p14, p15, p16, o, E⟩ := (hI _ _ _).1 hi
  have hnl := (nums_len (flds (c.take i))).2
  rw [flds_len, take_len hi] at hnl
  have hlen : (l ++ (uv c.length ++ nums (flds (c.take i)))).length + 40 ≤ 1099511627776 := by rw [List.length_append, List.length_append]; omega
  by_cases hlt : i < c.length
  · obtain ⟨b, off, cap, ro, row, ze, hb, hbn, hrl, hr⟩ := rdC_at (RdR.ext (base := η.nx) hz E) hlt
    rw [ze] at p14
    have hcl : c[i].cells.length = 4 := rfl
    have E9 : ExtB ζ.nx ζ ((ζ.new (.live false [.int .i64 0, .int .i64 0, .int .i64 0, .int .i64 0])).put ζ.nx (.live false c[i].cells)) := extP (extN (.refl _ _))
    simp -implicitDefEqProofs (disch := omega) only [go_sem, p0, p2, p14, p15, p16, hb, hr, hcl]
    refine thenN_call (instr_then U (o.rd.ext E9) hlen (hk _ (List.getElem_mem hlt)) fun v2 η2 o2 E2 => ?_)
    simp -implicitDefEqProofs (disch := omega) only [go_sem, p0, p2, p14, p15, p16]
    refine ⟨c.length - (i + 1), by omega, (hI _ _ _).2 ⟨i + 1, v2, rfl, by omega, rfl, p2, by rw [ze]; exact p14, p15, rfl, ?_, E.trans ((E9.mono E.1).trans (E2.mono (Nat.le_succ_of_le E.1)))⟩⟩
    rw [flds_take hlt, ← List.append_assoc (uv c.length), ← List.append_assoc l]
    exact o2.mono (Nat.le_succ_of_le E.1)
  · obtain rfl : i = c.length := by omega
    simp -implicitDefEqProofs (disch := omega) only [go_sem, p0, p2, p14, p15, p16]
    rw [List.take_length] at o
    exact h _ _ o E
end Go.Proofs.YtjljolnhmmbkoaaDoor
namespace Go.Proofs.YtjljolnhmmbkoaaDoor
open Go.Eng Go.Plain
set_option autoImplicit false
set_option maxRecDepth 100000
variable {nat : ∀ [Deep], Nats}
theorem shr_u32 {x k : Nat} (h : x < 4294967296) : shrN .u32 x k = x / 2 ^ k := by
  have h1 : nneg .u32 x = true := ble_true.2 (show Nat.succ x ≤ 4294967296 from h)
  unfold shrN
  rw [h1]; rfl
theorem xor_ones32 {a : Nat} (h : a < 4294967296) : a ^^^ 4294967295 = 4294967295 - a := by
  have := congrArg BitVec.toNat (BitVec.xor_allOnes (x := BitVec.ofNat 32 a))
  rw [BitVec.toNat_xor, BitVec.toNat_not, BitVec.toNat_ofNat, BitVec.toNat_allOnes, Nat.mod_eq_of_lt (show a < 2 ^ 32 from h)] at this
  exact this
theorem crc_step {s : Nat} : (s / 2) ^^^ (3988292384 &&& ((4294967296 - s % 2) % 4294967296)) = crcS s := by
  unfold crcS
  by_cases h : s % 2 = 1
  · rw [if_pos h, h]; rfl
  · rw [if_neg h, show s % 2 = 0 by omega]
    exact Nat.xor_zero _
theorem rdA_u8 {η : HN} {y : AV} {l : List Nat} (h : RdA 1 η y l.length (u8s l)) {i : Nat} (hi : i < l.length) : ∃ b off cap ro row, y = .slice b off l.length cap ∧ η.f b = .live ro row ∧ b < η.nx ∧ row[off + i]? = some (.int .u8 l[i]) := by
  obtain ⟨b, off, cap, ro, row, h1, h2, h3, h4, h5⟩ := h.at1 hi
  exact ⟨b, off, cap, ro, row, h1, h2, h3, by rw [h5]; exact congrArg some (List.getElem_map _)⟩
theorem crcL_take {l : List Nat} {s i : Nat} (h : i < l.length) : crcL s (l.take (i + 1)) = crcB (crcL s (l.take i)) l[i] := by
  unfold crcL
  rw [List.take_succ_eq_append_getElem h, List.foldl_append]; rfl
set_option maxHeartbeats 1000000 in
theorem crc_call (U : Usual nat) {η : HN} {y : AV} {l : List Nat} (hy : RdA 1 η y l.length (u8s l)) (hx : ∀ x ∈ l, x < 256) (hl : l.length ≤ 1099511627776) : CallN Tryd.prog nat 37 [y] η (.int .u32 (crcF l)) η := by
  have : ∃ v η', CallN Tryd.prog nat 37 [y] η v η' ∧ v = .int .u32 (crcF l) ∧ η' = η := by
    refine call_of (PT := pl37) Tryd.func37 rfl (U 37 (by decide)) ok37 rfl ?_
    have ly : ∀ e w, lenN (.slice e 1 w) y η = .ok (.int .i64 l.length) η := fun e w => hy.len (by omega)
    simp -implicitDefEqProofs (disch := omega) only [go_sem, ly]
    obtain ⟨I, hI⟩ : ∃ I : Nat → FN → HN → Prop, ∀ m φ ζ, I m φ ζ ↔ ζ = η ∧ ∃ i s, m = l.length - i ∧ i ≤ l.length ∧ φ 3 = .int .u32 s ∧ φ 6 = y ∧ φ 7 = .int .i64 l.length ∧ φ 8 = .int .i64 i ∧ s = crcL 4294967295 (l.take i) := ⟨_, fun _ _ _ => Iff.rfl⟩
    refine wpN_loop I l.length ((hI _ _ _).2 ⟨rfl, 0, 4294967295, rfl, Nat.zero_le _, rfl, rfl, rfl, rfl, rfl⟩) ?_
    intro m φ ζ hi
    obtain ⟨rfl, i, s, hm, hi, p3, p6, p7, p8, hs⟩ := (hI _ _ _).1 hi
    have hs32 : s < 4294967296 := by rw [hs]; exact crcL_lt _ _ (fun x h => hx x (List.mem_of_mem_take h)) (by decide)
    by_cases hlt : i < l.length
    · obtain ⟨b, off, cap, ro, row, ye, hb, hbn, hr⟩ := rdA_u8 hy hlt
      have hxi := hx _ (List.getElem_mem hlt)
      have hx32 := crc_x hs32 hxi
      rw [ye] at p6
      simp -implicitDefEqProofs (disch := omega) only [go_sem, p3, p6, p7, p8, hb, hr]
      obtain ⟨J, hJ⟩ : ∃ J : Nat → FN → HN → Prop, ∀ m φ ζ', J m φ ζ' ↔ ζ' = ζ ∧ ∃ k t, m = 8 - k ∧ k ≤ 8 ∧ t < 4294967296 ∧ φ 3 = .int .u32 t ∧ φ 6 = .slice b off l.length cap ∧ φ 7 = .int .i64 l.length ∧ φ 8 = .int .i64 i ∧ φ 16 = .int .i64 k ∧ crcN (8 - k) t = crcB s l[i] := ⟨_, fun _ _ _ => Iff.rfl⟩
      refine wpN_loop J 8 ((hJ _ _ _).2 ⟨rfl, 0, _, rfl, by decide, hx32, rfl, p6, p7, p8, rfl, rfl⟩) ?_
      intro m' φ' ζ' hj
      obtain ⟨rfl, k, t, hm', hk, ht, q3, q6, q7, q8, q16, hc⟩ := (hJ _ _ _).1 hj
      by_cases hk8 : k < 8
      · have e1 : shrN .u32 t 1 = t / 2 := shr_u32 ht
        simp -implicitDefEqProofs (disch := omega) only [go_sem, q3, q6, q7, q8, q16, e1, Nat.and_one_is_mod, crc_step]
        refine ⟨8 - (k + 1), by omega, (hJ _ _ _).2 ⟨rfl, k + 1, _, rfl, by omega, crcS_lt ht, rfl, q6, q7, q8, rfl, ?_⟩⟩
        rw [← hc, show 8 - k = 8 - (k + 1) + 1 by omega]; rfl
      · obtain rfl : k = 8 := by omega
        have hc : t = crcB s l[i] := hc
        simp -implicitDefEqProofs (disch := omega) only [go_sem, q3, q6, q7, q8, q16]
        refine ⟨l.length - (i + 1), by omega, (hI _ _ _).2 ⟨rfl, i + 1, t, rfl, by omega, q3, by rw [ye]; exact q6, q7, rfl, ?_⟩⟩
        rw [crcL_take hlt, ← hs, hc]
    · obtain rfl : i = l.length := by omega
      simp -implicitDefEqProofs (disch := omega) only [go_sem, p3, p6, p7, p8]
      rw [List.take_length] at hs
      unfold crcF
      rw [← hs, xor_ones32 hs32]
  obtain ⟨v, η', k, rfl, rfl⟩ := this
  exact k
/-- bytes that are read, the room known so far as a part of them may be taken -/
def RdE (η : HN) (y : AV) (l : List Nat) : Prop := Emp y l ∨ ∃ b off n cap, y = .slice b off n cap ∧ RdS η b off n cap l ∧ b < η.nx
theorem RdE.toA {η : HN} {y : AV} {l : List Nat} (h : RdE η y l) : RdA 1 η y l.length (u8s l) := by
  rcases h with ⟨rfl, h⟩ | ⟨b, off, n, cap, rfl, ⟨rfl, h2, ro, row, h3, h4, h5⟩, h6⟩
  · exact .inl ⟨rfl, rfl, h⟩
  · exact .inr ⟨b, off, cap, ro, row, rfl, h3, h6, by omega, by rw [u8s_length]; omega, by rw [Nat.mul_one]; exact h5⟩
theorem RdE.ext {η η' : HN} {y : AV} {l : List Nat} (h : RdE η y l) (e : ExtB η.nx η η') : RdE η' y l := by
  rcases h with h | ⟨b, off, n, cap, h1, h2, h3⟩
  · exact .inl h
  · exact .inr ⟨b, off, n, cap, h1, h2.ext e h3, by have := e.1; omega⟩
theorem RdE.keep {η η' : HN} {y : AV} {l : List Nat} (h : RdE η y l) (hn : η.nx ≤ η'.nx) (k : ∀ b, b < η.nx → η'.f b = η.f b) : RdE η' y l := h.ext ⟨hn, k⟩
theorem OwnA.rdE {base : Nat} {η : HN} {x : AV} {l : List Nat} (h : OwnA 1 base η x l.length (u8s l)) : RdE η x l := by
  obtain ⟨h0, ⟨rfl, h1⟩ | ⟨b, h1, h2, ⟨rfl, h3, _⟩ | ⟨rfl, h3⟩⟩⟩ := h
  · exact .inl ⟨List.eq_nil_of_length_eq_zero h1, .inl rfl⟩
  · exact .inl ⟨List.eq_nil_of_length_eq_zero h3, .inr ⟨_, _, _, rfl⟩⟩
  · exact .inr ⟨b, 0, _, _, rfl, ⟨rfl, rfl, false, _, h3, by rw [u8s_length]; omega, by rw [List.drop_zero, List.take_of_length_le (by rw [u8s_length]; omega)]⟩, h2⟩
theorem OwnK.rdE {base n c : Nat} {η : HN} {x : AV} {l : List Nat} (h : OwnK base η x n c (u8s l)) : RdE η x l := by
  obtain ⟨b, rest, rfl, hb, hbn, hl, hr, hf⟩ := h
  rw [u8s_length] at hl
  exact .inr ⟨b, 0, n, .kn c, rfl, ⟨hl.symm, show n ≤ c by omega, false, _, hf, by rw [List.length_append, u8s_length]; omega, by rw [List.drop_zero, List.take_append_of_le_length (by rw [u8s_length]; omega), List.take_of_length_le (by rw [u8s_length]; omega)]⟩, hbn⟩
theorem RdE.cut_aux {η : HN} {e w lo hi : Nat} {o : Option AV} {y : AV} {l : List Nat} (ho : o = some (.int .i64 lo) ∨ (o = none ∧ lo = 0)) (h : RdE η y l) (h1 : lo ≤ hi) (h2 : hi ≤ l.length) (h0 : 0 < l.length) (hl : l.length ≤ 9223372036854775807) : ∃ y', (∀ η', slN (.slice e 1 w) y o (some (.int .i64 hi)) none η' = .ok y' η') ∧ RdE η y' ((l.take hi).drop lo) := by
  have hn1 : nneg .i64 lo = true := by rw [nnegD_i64]; exact decide_eq_true (by omega)
  have hn2 : nneg .i64 hi = true := by rw [nnegD_i64]; exact decide_eq_true (by omega)
  have bn : ∀ {len top : Nat} {k : Nat → Nat → RES}, hi ≤ top → bndsN o (some (.int .i64 hi)) len top k = k lo hi := fun {len top k} ht => by
    rcases ho with rfl | ⟨rfl, rfl⟩
    · rw [bndsN_at, bndN_s, if_pos hn1, bndN_s, if_pos hn2, if_pos ⟨h1, ht⟩]
    · rw [bndsN_at, bndN_n, bndN_s, if_pos hn2, if_pos ⟨h1, ht⟩]
  rcases h with ⟨rfl, hy⟩ | ⟨b, off, n, cap, rfl, ⟨rfl, h3, ro, row, h4, h5, h6⟩, h7⟩
  · simp at h0
  · have rest : ∀ cap', CapIs (hi - lo) 1 cap' → RdE η (.slice b (off + lo * 1) (hi - lo) cap') ((l.take hi).drop lo) := fun cap' hc => by
      refine .inr ⟨b, off + lo * 1, hi - lo, cap', rfl, ⟨by rw [List.length_drop, List.length_take]; omega, hc, ro, row, h4, by omega, ?_⟩, h7⟩
      rw [← u8s_drop, ← u8s_take, ← h6, List.take_take, List.drop_take, List.drop_drop, Nat.mul_one]
      congr 1
      omega
    cases cap with
    | kn c =>
      have hc : l.length ≤ c := h3
      by_cases hci : c = lo
      · exact ⟨_, fun η' => by rw [slN_kn, bn (by omega), slToN_at, if_pos hci], .inl ⟨by rw [List.drop_eq_nil_of_le (by rw [List.length_take]; omega)], .inr ⟨_, _, _, rfl⟩⟩⟩
      · exact ⟨.slice b (off + lo * 1) (hi - lo) (.kn (c - lo)), fun η' => by rw [slN_kn, bn (by omega), slToN_at, if_neg hci], rest _ (show _ ≤ c - lo by omega)⟩
    | un es =>
      have hc : es = 1 := h3
      subst hc
      exact ⟨.slice b (off + lo * 1) (hi - lo) (.un 1), fun η' => by rw [slN_un, if_pos rfl, bn (by omega)], rest _ rfl⟩
theorem RdE.cut {η : HN} {e w lo hi : Nat} {y : AV} {l : List Nat} (h : RdE η y l) (h1 : lo ≤ hi) (h2 : hi ≤ l.length) (h0 : 0 < l.length) (hl : l.length ≤ 9223372036854775807) : ∃ y', (∀ η', slN (.slice e 1 w) y (some (.int .i64 lo)) (some (.int .i64 hi)) none η' = .ok y' η') ∧ RdE η y' ((l.take hi).drop lo) := RdE.cut_aux (.inl rfl) h h1 h2 h0 hl
theorem RdE.cut0 {η : HN} {e w hi : Nat} {y : AV} {l : List Nat} (h : RdE η y l) (h2 : hi ≤ l.length) (h0 : 0 < l.length) (hl : l.length ≤ 9223372036854775807) : ∃ y', (∀ η', slN (.slice e 1 w) y none (some (.int .i64 hi)) none η' = .ok y' η') ∧ RdE η y' (l.take hi) := RdE.cut_aux (lo := 0) (.inr ⟨rfl, rfl⟩) h (Nat.zero_le _) h2 h0 hl
/-- growing past the room that there is -/
theorem app_K2 {base c m n : Nat} {η : HN} {x y : AV} {l k : List Nat} (hx : OwnK base η x n c (u8s l)) (hy : RdA 1 η y m (u8s k)) (hlen : n + m ≤ 140737488355328) (hlen2 : c ≤ 140737488355328) (hb0 : base ≤ η.nx) :
    ∃ x' η', apSrcN 1 1 x y η = .ok x' η' ∧ RdE η' x' (l ++ k) ∧ ExtB base η η' := by
  by_cases hc : n + m ≤ c
  · obtain ⟨x', η', e, o, E⟩ := app_K hx hy hc hlen2
    rw [← u8s_app] at o
    exact ⟨x', η', e, OwnK.rdE o, E⟩
  · obtain ⟨b, rest, rfl, hb, hbn, hl, hr, hf⟩ := hx
    rcases hy with ⟨rfl, _, _⟩ | ⟨b2, off, cap, ro, row, rfl, h1, _, h2, h3, h4⟩
    · omega
    · have hm : m ≠ 0 := by omega
      rw [u8s_length] at hl h3
      rw [apSrc_sl, if_neg hm, h1, rowN_at, if_pos h2, h4]
      refine ⟨.slice η.nx 0 (n + m) (.un 1), η.new (.live false (u8s (l ++ k))), ?_, .inr ⟨η.nx, 0, _, _, rfl, ⟨by rw [List.length_append]; omega, rfl, false, _, by show (if η.nx = η.nx then _ else _) = _; rw [if_pos rfl], by rw [u8s_length, List.length_append]; omega, by rw [List.drop_zero, List.take_of_length_le (by rw [u8s_length, List.length_append]; omega)]⟩, Nat.lt_succ_self _⟩, .new hb0⟩
      show (if (n + m) * 1 ≤ _ then (if m = 0 then _ else apKn b 0 n 1 m c (u8s k) (η.f b) η) else _) = _
      rw [if_pos (by omega), if_neg hm, apKn_new (by omega), hf, rowN_at, if_pos (by rw [List.length_append, u8s_length]; omega)]
      have : (u8s l ++ rest).take n = u8s l := by rw [List.take_append_of_le_length (by rw [u8s_length]; omega), List.take_of_length_le (by rw [u8s_length]; omega)]
      simp [apNewN]
      rw [this, u8s_app]
end Go.Proofs.YtjljolnhmmbkoaaDoor
namespace Go.Proofs.YtjljolnhmmbkoaaDoor
open Go.Eng Go.Plain
set_option autoImplicit false
set_option maxRecDepth 100000
variable {nat : ∀ [Deep], Nats}
theorem lst_bd (l : List Nat) : (lst l).length ≤ 10 * l.length + 10 := lst_len l
theorem RdA.lit4 {η : HN} {a b c d : AV} {cp : Cp} : RdA 1 (η.new (.live false [a, b, c, d])) (.slice η.nx 0 4 cp) 4 [a, b, c, d] := .inr ⟨η.nx, 0, cp, false, [a, b, c, d], rfl, by show (if η.nx = η.nx then _ else _) = _; rw [if_pos rfl], Nat.lt_succ_self _, Nat.le_refl _, rfl, rfl⟩
theorem thenN_appK2 {base c m n : Nat} {η : HN} {x y : AV} {l k : List Nat} {C : Eng.Spec} {d : Option Nat} {φ : FN} {kk : FN → HN → Prop} (hx : OwnK base η x n c (u8s l)) (hy : RdA 1 η y m (u8s k)) (hlen : n + m ≤ 140737488355328) (hlen2 : c ≤ 140737488355328) (hb0 : base ≤ η.nx)
    (h : ∀ x' η', RdE η' x' (l ++ k) → ExtB base η η' → kk (putN d x' φ) η') : thenN C (apSrcN 1 1 x y η) η d kk φ := by
  obtain ⟨x', η', e, o, E⟩ := app_K2 hx hy hlen hlen2 hb0
  rw [e]
  exact h x' η' o E
set_option maxHeartbeats 2000000 in
theorem enc_then (U : Usual nat) {η : HN} {z : PV} {p : PD} {Q : AV → HN → Prop} (hp : IsP η z p) (hr : Res p) (ht : totN p ≤ 1000000000) (h : ∀ v η', RdE η' v (encF p) → ExtB η.nx η η' → Q v η') :
    ∃ v η', CallN Tryd.prog nat 10 [.agg z.cells] η v η' ∧ Q v η' := by
  refine call_of (PT := pl10) Tryd.func10 rfl (U 10 (by decide)) ok10 rfl ?_
  have hxB := encB_lt hr
  unfold totN at ht
  have c1 := RdR.cells hp.ins
  have c2 := RdR.cells hp.outs
  have c3 := RdR.cells hp.slots
  have c4 := RdR.cells hp.mems
  have k1 := lst_bd p.ins
  have k2 := lst_bd p.outs
  have k3 := lst_bd p.slots
  have k4 := lst_bd p.mems
  have k5 := lst_bd p.consts
  simp -implicitDefEqProofs (disch := omega) only [go_sem, c1, c2, c3, c4]
  refine loop_n 5 ?_
  obtain ⟨ζ0, hζ⟩ : ∃ ζ, ζ = ((η.new (.live false z.cells)).new (.live false [AV.int .u8 83, .int .u8 84, .int .u8 69, .int .u8 80])).new (.live false [z.z1, z.z2, z.z3, z.z4]) := ⟨_, rfl⟩
  have E0 : ExtB η.nx η ζ0 := by rw [hζ]; exact extN (extN (extN (.refl _ _)))
  have hn0 : ζ0.nx = η.nx + 3 := by rw [hζ]; rfl
  have f0 : ζ0.f η.nx = .live false z.cells := by rw [hζ]; show (if η.nx = η.nx + 1 + 1 then _ else if η.nx = η.nx + 1 then _ else if η.nx = η.nx then _ else _) = _; rw [if_neg (by omega), if_neg (by omega), if_pos rfl]
  have g0 : ζ0.f (η.nx + 1 + 1) = .live false [z.z1, z.z2, z.z3, z.z4] := by rw [hζ]; show (if η.nx + 1 + 1 = η.nx + 1 + 1 then _ else _) = _; rw [if_pos rfl]
  have o0 : RdA 1 ζ0 (.slice (η.nx + 1) 0 4 (.kn 4)) markB.length (u8s markB) := by
    rw [hζ]
    exact RdA.ext (RdA.lit4 (η := η.new (.live false z.cells))) (.new (Nat.le_refl _))
  have m0 : markB.length = 4 := rfl
  simp -implicitDefEqProofs (disch := omega) only [go_sem, ← hζ, f0, g0]
  refine thenN_call (put31_then U o0 (ext_rdI hp.ins E0) (by omega) hr.ins.2 fun v1 ζ1 o1 F1 => ?_)
  have f1 := (F1.2 η.nx (by omega)).trans f0
  have g1 := (F1.2 (η.nx + 1 + 1) (by omega)).trans g0
  have n1 := F1.1
  have E1 := E0.trans (F1.mono E0.1)
  simp -implicitDefEqProofs (disch := omega) only [go_sem, f1, g1]
  refine thenN_call (put31_then U o1.rd (ext_rdI hp.outs E1) (by simp only [List.length_append]; omega) hr.outs.2 fun v2 ζ2 o2 F2 => ?_)
  have f2 := (F2.2 η.nx (by omega)).trans f1
  have g2 := (F2.2 (η.nx + 1 + 1) (by omega)).trans g1
  have n2 := F2.1
  have E2 := E1.trans (F2.mono E1.1)
  simp -implicitDefEqProofs (disch := omega) only [go_sem, f2, g2]
  refine thenN_call (put31_then U o2.rd (ext_rdI hp.slots E2) (by simp only [List.length_append]; omega) hr.slots.2 fun v3 ζ3 o3 F3 => ?_)
  have f3 := (F3.2 η.nx (by omega)).trans f2
  have g3 := (F3.2 (η.nx + 1 + 1) (by omega)).trans g2
  have n3 := F3.1
  have E3 := E2.trans (F3.mono E2.1)
  simp -implicitDefEqProofs (disch := omega) only [go_sem, f3, g3]
  refine thenN_call (put31_then U o3.rd (ext_rdI hp.mems E3) (by simp only [List.length_append]; omega) hr.mems.2 fun v4 ζ4 o4 F4 => ?_)
  have f4 := (F4.2 η.nx (by omega)).trans f3
  have g4 := (F4.2 (η.nx + 1 + 1) (by omega)).trans g3
  have n4 := F4.1
  have E4 := E3.trans (F4.mono E3.1)
  simp -implicitDefEqProofs (disch := omega) only [go_sem, f4, g4]
  refine thenN_call (put33_then U o4.rd (ext_rdI hp.consts E4) (by simp only [List.length_append]; omega) hr.consts.2 fun v5 ζ5 o5 F5 => ?_)
  have f5 := (F5.2 η.nx (by omega)).trans f4
  have n5 := F5.1
  have E5 := E4.trans (F5.mono E4.1)
  simp -implicitDefEqProofs (disch := omega) only [go_sem, f5]
  refine thenN_call (put35_then U o5.rd (RdR.ext (base := η.nx) hp.code E5) (by simp only [List.length_append]; omega) hr.code.2 fun v6 ζ6 o6 F6 => ?_)
  have f6 := (F6.2 η.nx (by omega)).trans f5
  have n6 := F6.1
  have E6 := E5.trans (F6.mono E5.1)
  simp -implicitDefEqProofs (disch := omega) only [go_sem, f6]
  have eB : markB ++ lst p.ins ++ lst p.outs ++ lst p.slots ++ lst p.mems ++ lst p.consts ++ lstC p.code = encB p := by unfold encB tailB; simp only [List.append_assoc]
  rw [eB] at o6
  have kB := tail_len p
  have kB2 : (encB p).length = 4 + (tailB p).length := by unfold encB; rw [List.length_append, m0]
  unfold totN at kB
  refine thenN_call ⟨_, _, crc_call U o6.rd hxB (by omega), ?_⟩
  have hs := crcF_lt hxB
  have e1 : shrN .u32 (crcF (encB p)) 8 = crcF (encB p) / 256 := shr_u32 hs
  have e2 : shrN .u32 (crcF (encB p)) 16 = crcF (encB p) / 65536 := shr_u32 hs
  have e3 : shrN .u32 (crcF (encB p)) 24 = crcF (encB p) / 16777216 := shr_u32 hs
  simp -implicitDefEqProofs (disch := omega) only [go_sem, e1, e2, e3]
  obtain ⟨c, hc, o7⟩ := o6
  have e9 : crcF (encB p) / 16777216 % 256 = crcF (encB p) / 16777216 := by omega
  have l4 : RdA 1 (ζ6.new (.live false (u8s (low4 (crcF (encB p)))))) (.slice ζ6.nx 0 4 (.kn 4)) 4 (u8s (low4 (crcF (encB p)))) := RdA.lit4
  unfold low4 at l4
  rw [e9] at l4
  refine thenN_appK2 (k := low4 (crcF (encB p))) (o7.ext (.new (Nat.le_refl _))) (by unfold low4; rw [e9]; exact l4) (by omega) (by omega) (by show ζ5.nx ≤ ζ6.nx + 1; omega) fun x' ζ7 o8 F8 => ?_
  simp -implicitDefEqProofs (disch := omega) only [go_sem]
  exact h _ _ o8 ((E6.trans (.new E6.1)).trans (F8.mono E5.1))
end Go.Proofs.YtjljolnhmmbkoaaDoor
