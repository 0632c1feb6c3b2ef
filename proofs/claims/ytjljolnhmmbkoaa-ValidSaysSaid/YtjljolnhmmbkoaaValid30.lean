/- What is proved: a program that comes in, as lists. Conditions: none. -/
import Derived.Test.YtjljolnhmmbkoaaValid29
import Derived.Test.YtjljolnhmmbkoaaWM
set_option linter.unusedVariables false
set_option linter.unusedSimpArgs false
set_option linter.unusedSectionVars false
namespace Go.Proofs.Ytjljolnhmmbkoaa
open Go.Eng Go.Plain Go.ChangeShapes Go.WideShapes
set_option autoImplicit false
set_option maxRecDepth 100000
theorem cells23 : Try.prog.cellsOf 23 = 1 := by kernel_rfl
theorem cells2 : Try.prog.cellsOf 2 = 1 := by kernel_rfl
theorem cells3 : Try.prog.cellsOf 3 = 1 := by kernel_rfl
theorem cells24 : Try.prog.cellsOf 24 = 1 := by kernel_rfl
theorem cells29 : Try.prog.cellsOf 29 = 1 := by kernel_rfl
theorem cells30 : Try.prog.cellsOf 30 = 1 := by kernel_rfl
theorem cells34 : Try.prog.cellsOf 34 = 4 := by kernel_rfl
theorem cells32 : Try.prog.cellsOf 32 = 6 := by kernel_rfl
theorem plain32 : plainTy Try.prog 6 32 = true := by kernel_rfl
section
variable {H : Type} {η : HN}
theorem rep_int {m : Nat} {t : TypeId} {cs : List AV} {d : DataW H} (ht : Try.prog.underlying t = some (.int .i64)) (h : RepT Try.prog η (m + 1) t cs d) : ∃ n, n < 18446744073709551616 ∧ cs = [.int .i64 n] := by
  rw [RepT, ht] at h
  obtain ⟨z, rfl, _⟩ := h
  exact ⟨_, @res_lt ⟨0, 0⟩ noEnv .i64 z, rfl⟩
abbrev R64 := { n : Nat // n < 18446744073709551616 }
theorem rep_ints {m : Nat} {t e : TypeId} {cs : List AV} {d : DataW H} (ht : Try.prog.underlying t = some (.slice e)) (he : Try.prog.underlying e = some (.int .i64)) (hc : Try.prog.cellsOf e = 1) (h : RepT Try.prog η (m + 2) t cs d) :
    ∃ y l, cs = [y] ∧ RdI .i64 η y l ∧ l.length ≤ 9223372036854775807 ∧ ∀ n ∈ l, n < 18446744073709551616 := by
  obtain ⟨y, l, e1, e2, e3⟩ := rep_slice (α := R64) (fun a => [.int .i64 a.1]) ht h (fun a => by rw [hc]; rfl) fun z x hx => by
    obtain ⟨n, hn, e⟩ := rep_int he hx
    exact ⟨⟨n, hn⟩, e⟩
  refine ⟨y, l.map (·.1), e1, ?_, by rw [List.length_map]; unfold maxLen at e3; omega, fun n hn => by obtain ⟨a, _, rfl⟩ := List.mem_map.1 hn; exact a.2⟩
  unfold RdI
  rw [hc] at e2
  rw [List.map_map]
  exact e2
abbrev I64 := { i : Ins // i.op < 18446744073709551616 ∧ i.a < 18446744073709551616 ∧ i.b < 18446744073709551616 ∧ i.c < 18446744073709551616 }
theorem fields34 : ∃ fs : Array Field, Try.prog.underlying 34 = some (.struct fs) ∧ fs.map (fun f => (f.offset, f.type)) = #[(0, 3), (1, 3), (2, 3), (3, 3)] := by
  exact ⟨_, Try.underlying34, by simp⟩
theorem fields32 : ∃ fs : Array Field, Try.prog.underlying 32 = some (.struct fs) ∧ fs.map (fun f => (f.offset, f.type)) = #[(0, 24), (1, 24), (2, 24), (3, 24), (4, 29), (5, 30)] := by
  exact ⟨_, Try.underlying32, by simp⟩
/-- the fields of a struct, one cell each -/
theorem rep_field {m i o t' : Nat} {fs : Array Field} {xs : List (DataW H)} {cs : List AV} {fl : Array (Nat × TypeId)} (hfl : fs.map (fun f => (f.offset, f.type)) = fl) (hi : fl[i]? = some (o, t')) (hx : xs.length = fs.size)
    (h : ∀ (i : Nat) (f : Field) (x : DataW H), fs[i]? = some f → xs[i]? = some x → RepT Try.prog η m f.type ((cs.drop f.offset).take (Try.prog.cellsOf f.type)) x) : ∃ x : DataW H, RepT Try.prog η m t' ((cs.drop o).take (Try.prog.cellsOf t')) x := by
  subst hfl
  rw [Array.getElem?_map] at hi
  cases hf : fs[i]? with
  | none => rw [hf] at hi; simp at hi
  | some f =>
    rw [hf] at hi
    simp at hi
    obtain ⟨rfl, rfl⟩ := hi
    have hlt : i < fs.size := (Array.getElem?_eq_some_iff.1 hf).1
    exact ⟨_, h i f xs[i] hf (List.getElem?_eq_getElem (by omega))⟩
theorem rep_ins {m : Nat} {cs : List AV} {d : DataW H} (h : RepT Try.prog η (m + 2) 34 cs d) : ∃ a : I64, cs = a.1.cells := by
  obtain ⟨fs, hu, hfl⟩ := fields34
  rw [RepT, hu] at h
  obtain ⟨xs, _, hx, hl, h⟩ := h
  rw [cells34] at hl
  obtain ⟨_, h0⟩ := rep_field hfl (i := 0) (o := 0) (t' := 3) rfl hx h
  obtain ⟨_, h1⟩ := rep_field hfl (i := 1) (o := 1) (t' := 3) rfl hx h
  obtain ⟨_, h2⟩ := rep_field hfl (i := 2) (o := 2) (t' := 3) rfl hx h
  obtain ⟨_, h3⟩ := rep_field hfl (i := 3) (o := 3) (t' := 3) rfl hx h
  obtain ⟨a, la, ea⟩ := rep_int Try.underlying3 h0
  obtain ⟨b, lb, eb⟩ := rep_int Try.underlying3 h1
  obtain ⟨c, lc, ec⟩ := rep_int Try.underlying3 h2
  obtain ⟨d, ld, ed⟩ := rep_int Try.underlying3 h3
  rw [cells3] at ea eb ec ed
  refine ⟨⟨⟨a, b, c, d⟩, la, lb, lc, ld⟩, ?_⟩
  match cs, hl with
  | [w, x, y, z], _ => simp at ea eb ec ed; subst ea eb ec ed; rfl
theorem rep_prog {m : Nat} {cs : List AV} {d : DataW H} (h : RepT Try.prog η (m + 4) 32 cs d) : ∃ z p, cs = PV.cells z ∧ IsP η z p ∧ Resd p := by
  obtain ⟨fs, hu, hfl⟩ := fields32
  rw [RepT, hu] at h
  obtain ⟨xs, _, hx, hl, h⟩ := h
  rw [cells32] at hl
  obtain ⟨_, h0⟩ := rep_field hfl (i := 0) (o := 0) (t' := 24) rfl hx h
  obtain ⟨_, h1⟩ := rep_field hfl (i := 1) (o := 1) (t' := 24) rfl hx h
  obtain ⟨_, h2⟩ := rep_field hfl (i := 2) (o := 2) (t' := 24) rfl hx h
  obtain ⟨_, h3⟩ := rep_field hfl (i := 3) (o := 3) (t' := 24) rfl hx h
  obtain ⟨_, h4⟩ := rep_field hfl (i := 4) (o := 4) (t' := 29) rfl hx h
  obtain ⟨_, h5⟩ := rep_field hfl (i := 5) (o := 5) (t' := 30) rfl hx h
  obtain ⟨y0, l0, e0, r0, b0, c0⟩ := rep_ints Try.underlying24 Try.underlying23 cells23 h0
  obtain ⟨y1, l1, e1, r1, b1, c1⟩ := rep_ints Try.underlying24 Try.underlying23 cells23 h1
  obtain ⟨y2, l2, e2, r2, b2, c2⟩ := rep_ints Try.underlying24 Try.underlying23 cells23 h2
  obtain ⟨y3, l3, e3, r3, b3, c3⟩ := rep_ints Try.underlying24 Try.underlying23 cells23 h3
  obtain ⟨y4, l4, e4, r4, b4, c4⟩ := rep_ints Try.underlying29 Try.underlying2 cells2 h4
  obtain ⟨y5, l5, e5, r5, b5⟩ := rep_slice (α := I64) (fun a => a.1.cells) Try.underlying30 h5 (fun a => by rw [cells34]; rfl) fun z x hx => rep_ins hx
  rw [cells24] at e0 e1 e2 e3
  rw [cells29] at e4
  rw [cells30] at e5
  refine ⟨⟨y0, y1, y2, y3, y4, y5⟩, ⟨l0, l1, l2, l3, l4, l5.map (·.1)⟩, ?_, ⟨r0, r1, r2, r3, r4, ?_⟩, ⟨⟨b0, c0⟩, ⟨b1, c1⟩, ⟨b2, c2⟩, ⟨b3, c3⟩, ⟨b4, c4⟩, by rw [List.length_map]; unfold maxLen at b5; omega, fun i hi => by obtain ⟨a, _, rfl⟩ := List.mem_map.1 hi; exact a.2⟩⟩
  · match cs, hl with
    | [q, r, s, t, u, v], _ => simp at e0 e1 e2 e3 e4 e5; subst e0 e1 e2 e3 e4 e5; rfl
  · unfold RdC
    rw [cells34] at r5
    rw [List.map_map]
    exact r5
end
end Go.Proofs.Ytjljolnhmmbkoaa
