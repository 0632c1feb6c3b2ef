/- What is proved: whether a program is more than is asked of. a program that comes in, as lists. slices and programs, copied. what an instruction of two slots works out; whether a row fits. a machine in the heap; how it is made. one instruction of a machine. Conditions: as each theorem says. -/
import Derived.Test.YtjljolnhmmbkoaaValC
import Derived.Test.YtjljolnhmmbkoaaWM
import Derived.Test.YtjljolnhmmbkoaaPlain
set_option linter.unusedVariables false
set_option linter.unusedSimpArgs false
set_option linter.unusedSectionVars false
namespace Go.Proofs.Ytjljolnhmmbkoaa
open Go.Eng Go.Plain
set_option autoImplicit false
set_option maxRecDepth 100000
variable {nat : ∀ [Deep], Nats}
structure Resd (p : PD) : Prop where
 ins : p.ins.length ≤ 9223372036854775807 ∧ ∀ n ∈ p.ins, n < 18446744073709551616
 outs : p.outs.length ≤ 9223372036854775807 ∧ ∀ n ∈ p.outs, n < 18446744073709551616
 slots : p.slots.length ≤ 9223372036854775807 ∧ ∀ n ∈ p.slots, n < 18446744073709551616
 mems : p.mems.length ≤ 9223372036854775807 ∧ ∀ n ∈ p.mems, n < 18446744073709551616
 consts : p.consts.length ≤ 9223372036854775807 ∧ ∀ n ∈ p.consts, n < 18446744073709551616
 code : p.code.length ≤ 9223372036854775807 ∧ ∀ i ∈ p.code, i.op < 18446744073709551616 ∧ i.a < 18446744073709551616 ∧ i.b < 18446744073709551616 ∧ i.c < 18446744073709551616
def greatF (p : PD) : Bool := decide (70 < p.ins.length ∨ 70 < p.outs.length ∨ 200 < p.slots.length ∨ 100 < p.mems.length ∨ 100 < p.consts.length ∨ 400 < p.code.length)
theorem Resd.fine {p : PD} (h : Resd p) (g : greatF p = false) : Fine p := by
 unfold greatF at g
 have g := of_decide_eq_false g
 exact ⟨⟨by omega, h.ins.2⟩, ⟨by omega, h.outs.2⟩, ⟨by omega, h.slots.2⟩, ⟨by omega, h.mems.2⟩, ⟨by omega, h.consts.2⟩, ⟨by omega, h.code.2⟩⟩
theorem rdI_len9 {k : IntKind} {η : HN} {y : AV} {l : List Nat} (h : RdI k η y l) (hl : l.length ≤ 9223372036854775807) : ∀ e y' η', lenN (.slice e 1 y') y η' = .ok (.int .i64 l.length) η' := fun e y' η' => by
 have := RdR.len (e := e) (y' := y') (η' := η') h (by simpa using hl)
 simpa using this
theorem rdC_len9 {η : HN} {y : AV} {l : List Ins} (h : RdC η y l) (hl : l.length ≤ 9223372036854775807) : ∀ e y' η', lenN (.slice e 4 y') y η' = .ok (.int .i64 l.length) η' := fun e y' η' => by
 have := RdR.len (e := e) (y' := y') (η' := η') h (by simpa using hl)
 simpa using this
end Go.Proofs.Ytjljolnhmmbkoaa
namespace Go.Proofs.Ytjljolnhmmbkoaa
open Go.Eng Go.Plain Go.ChangeShapes Go.WideShapes
set_option autoImplicit false
set_option maxRecDepth 100000
theorem cells23 : Try.prog.cellsOf 23 = 1 := by kernel_rfl
theorem cells2 : Try.prog.cellsOf 2 = 1 := by kernel_rfl
theorem cells3 : Try.prog.cellsOf 3 = 1 := by kernel_rfl
theorem cells24 : Try.prog.cellsOf 24 = 1 := by kernel_rfl
theorem cells29 : Try.prog.cellsOf 29 = 1 := by kernel_rfl
theorem cells30 : Try.prog.cellsOf 30 = 1 := by kernel_rfl
theorem cells34 : Try.prog.cellsOf 34 = 4 := by kernel_rfl
theorem cells32 : Try.prog.cellsOf 32 = 6 := by kernel_rfl
theorem plain32 : plainTy Try.prog 6 32 = true := by kernel_rfl
section
variable {H : Type} {η : HN}
theorem rep_int {m : Nat} {t : TypeId} {cs : List AV} {d : DataW H} (ht : Try.prog.underlying t = some (.int .i64)) (h : RepT Try.prog η (m + 1) t cs d) : ∃ n, n < 18446744073709551616 ∧ cs = [.int .i64 n] := by
 rw [RepT, ht] at h
 obtain ⟨z, rfl, _⟩ := h
 exact ⟨_, @res_lt ⟨0, 0⟩ noEnv .i64 z, rfl⟩
abbrev R64 := { n : Nat // n < 18446744073709551616 }
theorem rep_ints {m : Nat} {t e : TypeId} {cs : List AV} {d : DataW H} (ht : Try.prog.underlying t = some (.slice e)) (he : Try.prog.underlying e = some (.int .i64)) (hc : Try.prog.cellsOf e = 1) (h : RepT Try.prog η (m + 2) t cs d) :
  ∃ y l, cs = [y] ∧ RdI .i64 η y l ∧ l.length ≤ 9223372036854775807 ∧ ∀ n ∈ l, n < 18446744073709551616 := by
 obtain ⟨y, l, e1, e2, e3⟩ := rep_slice (α := R64) (fun a => [.int .i64 a.1]) ht h (fun a => by rw [hc]; rfl) fun z x hx => by
  obtain ⟨n, hn, e⟩ := rep_int he hx
  exact ⟨⟨n, hn⟩, e⟩
 refine ⟨y, l.map (·.1), e1, ?_, by rw [List.length_map]; unfold maxLen at e3; omega, fun n hn => by obtain ⟨a, _, rfl⟩ := List.mem_map.1 hn; exact a.2⟩
 unfold RdI
 rw [hc] at e2
 rw [List.map_map]
 exact e2
abbrev I64 := { i : Ins // i.op < 18446744073709551616 ∧ i.a < 18446744073709551616 ∧ i.b < 18446744073709551616 ∧ i.c < 18446744073709551616 }
theorem fields34 : ∃ fs : Array Field, Try.prog.underlying 34 = some (.struct fs) ∧ fs.map (fun f => (f.offset, f.type)) = #[(0, 3), (1, 3), (2, 3), (3, 3)] := by
 exact ⟨_, Try.underlying34, by simp⟩
theorem fields32 : ∃ fs : Array Field, Try.prog.underlying 32 = some (.struct fs) ∧ fs.map (fun f => (f.offset, f.type)) = #[(0, 24), (1, 24), (2, 24), (3, 24), (4, 29), (5, 30)] := by
 exact ⟨_, Try.underlying32, by simp⟩
theorem rep_field {m i o t' : Nat} {fs : Array Field} {xs : List (DataW H)} {cs : List AV} {fl : Array (Nat × TypeId)} (hfl : fs.map (fun f => (f.offset, f.type)) = fl) (hi : fl[i]? = some (o, t')) (hx : xs.length = fs.size)
  (h : ∀ (i : Nat) (f : Field) (x : DataW H), fs[i]? = some f → xs[i]? = some x → RepT Try.prog η m f.type ((cs.drop f.offset).take (Try.prog.cellsOf f.type)) x) : ∃ x : DataW H, RepT Try.prog η m t' ((cs.drop o).take (Try.prog.cellsOf t')) x := by
 subst hfl
 rw [Array.getElem?_map] at hi
 cases hf : fs[i]? with
 | none => rw [hf] at hi; simp at hi
 | some f =>
  rw [hf] at hi
  simp at hi
  obtain ⟨rfl, rfl⟩ := hi
  have hlt : i < fs.size := (Array.getElem?_eq_some_iff.1 hf).1
  exact ⟨_, h i f xs[i] hf (List.getElem?_eq_getElem (by omega))⟩
theorem rep_ins {m : Nat} {cs : List AV} {d : DataW H} (h : RepT Try.prog η (m + 2) 34 cs d) : ∃ a : I64, cs = a.1.cells := by
 obtain ⟨fs, hu, hfl⟩ := fields34
 rw [RepT, hu] at h
 obtain ⟨xs, _, hx, hl, h⟩ := h
 rw [cells34] at hl
 obtain ⟨_, h0⟩ := rep_field hfl (i := 0) (o := 0) (t' := 3) rfl hx h
 obtain ⟨_, h1⟩ := rep_field hfl (i := 1) (o := 1) (t' := 3) rfl hx h
 obtain ⟨_, h2⟩ := rep_field hfl (i := 2) (o := 2) (t' := 3) rfl hx h
 obtain ⟨_, h3⟩ := rep_field hfl (i := 3) (o := 3) (t' := 3) rfl hx h
 obtain ⟨a, la, ea⟩ := rep_int Try.underlying3 h0
 obtain ⟨b, lb, eb⟩ := rep_int Try.underlying3 h1
 obtain ⟨c, lc, ec⟩ := rep_int Try.underlying3 h2
 obtain ⟨d, ld, ed⟩ := rep_int Try.underlying3 h3
 rw [cells3] at ea eb ec ed
 refine ⟨⟨⟨a, b, c, d⟩, la, lb, lc, ld⟩, ?_⟩
 match cs, hl with
 | [w, x, y, z], _ => simp at ea eb ec ed; subst ea eb ec ed; rfl
theorem rep_prog {m : Nat} {cs : List AV} {d : DataW H} (h : RepT Try.prog η (m + 4) 32 cs d) : ∃ z p, cs = PV.cells z ∧ IsP η z p ∧ Resd p := by
 obtain ⟨fs, hu, hfl⟩ := fields32
 rw [RepT, hu] at h
 obtain ⟨xs, _, hx, hl, h⟩ := h
 rw [cells32] at hl
 obtain ⟨_, h0⟩ := rep_field hfl (i := 0) (o := 0) (t' := 24) rfl hx h
 obtain ⟨_, h1⟩ := rep_field hfl (i := 1) (o := 1) (t' := 24) rfl hx h
 obtain ⟨_, h2⟩ := rep_field hfl (i := 2) (o := 2) (t' := 24) rfl hx h
 obtain ⟨_, h3⟩ := rep_field hfl (i := 3) (o := 3) (t' := 24) rfl hx h
 obtain ⟨_, h4⟩ := rep_field hfl (i := 4) (o := 4) (t' := 29) rfl hx h
 obtain ⟨_, h5⟩ := rep_field hfl (i := 5) (o := 5) (t' := 30) rfl hx h
 obtain ⟨y0, l0, e0, r0, b0, c0⟩ := rep_ints Try.underlying24 Try.underlying23 cells23 h0
 obtain ⟨y1, l1, e1, r1, b1, c1⟩ := rep_ints Try.underlying24 Try.underlying23 cells23 h1
 obtain ⟨y2, l2, e2, r2, b2, c2⟩ := rep_ints Try.underlying24 Try.underlying23 cells23 h2
 obtain ⟨y3, l3, e3, r3, b3, c3⟩ := rep_ints Try.underlying24 Try.underlying23 cells23 h3
 obtain ⟨y4, l4, e4, r4, b4, c4⟩ := rep_ints Try.underlying29 Try.underlying2 cells2 h4
 obtain ⟨y5, l5, e5, r5, b5⟩ := rep_slice (α := I64) (fun a => a.1.cells) Try.underlying30 h5 (fun a => by rw [cells34]; rfl) fun z x hx => rep_ins hx
 rw [cells24] at e0 e1 e2 e3
 rw [cells29] at e4
 rw [cells30] at e5
 refine ⟨⟨y0, y1, y2, y3, y4, y5⟩, ⟨l0, l1, l2, l3, l4, l5.map (·.1)⟩, ?_, ⟨r0, r1, r2, r3, r4, ?_⟩, ⟨⟨b0, c0⟩, ⟨b1, c1⟩, ⟨b2, c2⟩, ⟨b3, c3⟩, ⟨b4, c4⟩, by rw [List.length_map]; unfold maxLen at b5; omega, fun i hi => by obtain ⟨a, _, rfl⟩ := List.mem_map.1 hi; exact a.2⟩⟩
 ·match cs, hl with
  | [q, r, s, t, u, v], _ => simp at e0 e1 e2 e3 e4 e5; subst e0 e1 e2 e3 e4 e5; rfl
 ·unfold RdC
  rw [cells34] at r5
  rw [List.map_map]
  exact r5
end
end Go.Proofs.Ytjljolnhmmbkoaa
namespace Go.Proofs.Ytjljolnhmmbkoaa
open Go.Eng Go.Plain
set_option autoImplicit false
set_option maxRecDepth 100000
variable {nat : ∀ [Deep], Nats}
theorem RdA.isSl {s n : Nat} {η : HN} {y : AV} {l : List AV} (h : RdA s η y n l) : (y = .nilslice ∧ n = 0 ∧ l = []) ∨ ∃ b off cap, y = .slice b off n cap := by
 rcases h with ⟨rfl, rfl, rfl | ⟨b, off, cap, rfl⟩⟩ | ⟨b, off, cap, ro, row, rfl, _⟩
 ·exact .inl ⟨rfl, rfl, rfl⟩
 ·exact .inr ⟨b, off, cap, rfl⟩
 ·exact .inr ⟨b, off, cap, rfl⟩
theorem clone90_then (U : Usual nat) {η : HN} {y : AV} {n : Nat} {l : List AV} {Q : AV → HN → Prop} (hy : RdA 1 η y n l) (hn : n ≤ 1099511627776) (h : ∀ v η', OwnA 1 η.nx η' v n l → ExtB η.nx η η' → Q v η') : ∃ v η', CallN Try.prog nat 90 [y] η v η' ∧ Q v η' := by
 refine call_of (PT := pl90) Try.func90 rfl (U 90 (by decide)) ok90 rfl ?_
 rcases RdA.isSl hy with ⟨rfl, rfl, rfl⟩ | ⟨b, off, cap, rfl⟩
 ·simp -implicitDefEqProofs (disch := omega) only [go_sem]
  exact h _ _ .nil (.refl _ _)
 ·simp -implicitDefEqProofs (disch := omega) only [go_sem]
  have E : ExtB η.nx η (η.new (.live false [])) := extN (.refl _ _)
  refine thenN_app (base := η.nx) (by decide) .new0 (hy.ext E) (by omega) E.1 fun x' η' o E2 => ?_
  rw [List.nil_append, Nat.zero_add] at o
  simp -implicitDefEqProofs (disch := omega) only [go_sem]
  exact h _ _ o (E.trans E2)
theorem clone71_then (U : Usual nat) {η : HN} {y : AV} {n : Nat} {l : List AV} {Q : AV → HN → Prop} (hy : RdA 1 η y n l) (hn : n ≤ 1099511627776) (h : ∀ v η', OwnA 1 η.nx η' v n l → ExtB η.nx η η' → Q v η') : ∃ v η', CallN Try.prog nat 71 [y] η v η' ∧ Q v η' := by
 refine call_of (PT := pl71) Try.func71 rfl (U 71 (by decide)) ok71 rfl ?_
 rcases RdA.isSl hy with ⟨rfl, rfl, rfl⟩ | ⟨b, off, cap, rfl⟩
 ·simp -implicitDefEqProofs (disch := omega) only [go_sem]
  exact h _ _ .nil (.refl _ _)
 ·simp -implicitDefEqProofs (disch := omega) only [go_sem]
  have E : ExtB η.nx η (η.new (.live false [])) := extN (.refl _ _)
  refine thenN_app (base := η.nx) (by decide) .new0 (hy.ext E) (by omega) E.1 fun x' η' o E2 => ?_
  rw [List.nil_append, Nat.zero_add] at o
  simp -implicitDefEqProofs (disch := omega) only [go_sem]
  exact h _ _ o (E.trans E2)
theorem clone91_then (U : Usual nat) {η : HN} {y : AV} {n : Nat} {l : List AV} {Q : AV → HN → Prop} (hy : RdA 4 η y n l) (hn : n ≤ 1099511627776) (h : ∀ v η', OwnA 4 η.nx η' v n l → ExtB η.nx η η' → Q v η') : ∃ v η', CallN Try.prog nat 91 [y] η v η' ∧ Q v η' := by
 refine call_of (PT := pl91) Try.func91 rfl (U 91 (by decide)) ok91 rfl ?_
 rcases RdA.isSl hy with ⟨rfl, rfl, rfl⟩ | ⟨b, off, cap, rfl⟩
 ·simp -implicitDefEqProofs (disch := omega) only [go_sem]
  exact h _ _ .nil (.refl _ _)
 ·simp -implicitDefEqProofs (disch := omega) only [go_sem]
  have E : ExtB η.nx η (η.new (.live false [])) := extN (.refl _ _)
  refine thenN_app (base := η.nx) (by decide) .new0 (hy.ext E) (by omega) E.1 fun x' η' o E2 => ?_
  rw [List.nil_append, Nat.zero_add] at o
  simp -implicitDefEqProofs (disch := omega) only [go_sem]
  exact h _ _ o (E.trans E2)
theorem RdA.toI {k : IntKind} {η : HN} {y : AV} {l : List Nat} (h : RdA 1 η y l.length (l.map (.int k))) : RdI k η y l := by
 rcases h with ⟨h0, _, h⟩ | ⟨b, off, cap, ro, row, h1, h2, h3, h4, h5, h6⟩
 ·obtain rfl : l = [] := List.eq_nil_of_length_eq_zero h0
  exact .inl ⟨rfl, h⟩
 ·exact .inr ⟨b, off, cap, ro, row, by rw [List.length_map]; exact h1, h2, h3, by rw [List.length_map]; exact h4, by simp, by rw [List.length_map, h6]; exact flat1 l⟩
theorem RdA.toC {η : HN} {y : AV} {l : List Ins} (h : RdA 4 η y l.length (rowsC l)) : RdC η y l := by
 rcases h with ⟨h0, _, h⟩ | ⟨b, off, cap, ro, row, h1, h2, h3, h4, h5, h6⟩
 ·obtain rfl : l = [] := List.eq_nil_of_length_eq_zero h0
  exact .inl ⟨rfl, h⟩
 ·exact .inr ⟨b, off, cap, ro, row, by rw [List.length_map]; exact h1, h2, h3, by rw [List.length_map]; exact h4, cells4 l, by rw [List.length_map, h6]; rfl⟩
theorem RdC.toA {η : HN} {y : AV} {l : List Ins} (h : RdC η y l) : RdA 4 η y l.length (rowsC l) := by
 have := RdR.toA h
 rw [List.length_map] at this
 exact this
theorem OwnA.cells1 {s base n : Nat} {η : HN} {x : AV} {l : List AV} (h : OwnA s base η x n l) : cellsV x = some [x] := by
 obtain ⟨_, ⟨rfl, _⟩ | ⟨b, _, _, ⟨rfl, _⟩ | ⟨rfl, _⟩⟩⟩ := h <;> rfl
theorem OwnA.keep {s b n : Nat} {η η' : HN} {x : AV} {l : List AV} (h : OwnA s b η x n l) (hn : η.nx ≤ η'.nx) (hk : ∀ c, b ≤ c → c < η.nx → η'.f c = η.f c) : OwnA s b η' x n l := by
 obtain ⟨q0, q | ⟨c, q1, q2, q3⟩⟩ := h
 ·exact ⟨q0, .inl q⟩
 ·exact ⟨q0, .inr ⟨c, q1, by omega, by rw [hk c q1 q2]; exact q3⟩⟩
theorem own_keep {s b n c lo : Nat} {η0 η η2 : HN} {x : AV} {l : List AV} {y : BN} (h : OwnA s b η0 x n l) (e : ExtB η0.nx η0 η) (hc : c < b) (hl : lo ≤ b) (hn : (η.put c y).nx ≤ η2.nx) (hk : ∀ d, lo ≤ d → d < (η.put c y).nx → η2.f d = (η.put c y).f d) : RdA s η2 x n l := by
 have hn : η.nx ≤ η2.nx := hn
 have e1 := e.1
 refine OwnA.rd (base := b) (OwnA.keep h (by omega) fun d h1 h2 => ?_)
 refine (hk d (by omega) (by show d < η.nx; omega)).trans (Eq.trans ?_ (e.2 d h2))
 show (if d = c then _ else _) = _
 rw [if_neg (by omega)]
set_option maxHeartbeats 2000000 in
theorem copy_then (U : Usual nat) {η : HN} {z : PV} {p : PD} {Q : AV → HN → Prop} (hp : IsP η z p) (hf : Fine p) (h : ∀ (z' : PV) η', (∀ η2 : HN, η'.nx ≤ η2.nx → (∀ b, η.nx ≤ b → b < η'.nx → η2.f b = η'.f b) → IsP η2 z' p) → ExtB η.nx η η' → Q (.agg z'.cells) η') : ∃ v η', CallN Try.prog nat 51 [.agg z.cells] η v η' ∧ Q v η' := by
 refine call_of (PT := pl51) Try.func51 rfl (U 51 (by decide)) ok51 rfl ?_
 simp -implicitDefEqProofs (disch := omega) only [go_sem]
 have E1 : ExtB η.nx η ((η.new (.live false z.cells)).new (.live false [.nilslice, .nilslice, .nilslice, .nilslice, .nilslice, .nilslice])) := extN (extN (.refl _ _))
 have n1 : ((η.new (.live false z.cells)).new (.live false [.nilslice, .nilslice, .nilslice, .nilslice, .nilslice, .nilslice])).nx = η.nx + 2 := rfl
 have x1 : ((η.new (.live false z.cells)).new (.live false [.nilslice, .nilslice, .nilslice, .nilslice, .nilslice, .nilslice])).f η.nx = .live false z.cells := by show (if η.nx = η.nx + 1 then _ else if η.nx = η.nx then _ else _) = _; rw [if_neg (by omega), if_pos rfl]
 have y1 : ((η.new (.live false z.cells)).new (.live false [.nilslice, .nilslice, .nilslice, .nilslice, .nilslice, .nilslice])).f (η.nx + 1) = .live false [.nilslice, .nilslice, .nilslice, .nilslice, .nilslice, .nilslice] := by show (if η.nx + 1 = η.nx + 1 then _ else _) = _; rw [if_pos rfl]
 generalize ((η.new (.live false z.cells)).new (.live false [.nilslice, .nilslice, .nilslice, .nilslice, .nilslice, .nilslice])) = η1 at *
 have F1 := E1
 refine dE_call (clone90_then U (((hp.ext F1).ins).toA) hf.ins.1 fun v2 η2 o2 E2 => ?_)
 have g2 := E2.1
 have x2 := (E2.2 _ (by omega)).trans x1
 have y2 := (E2.2 _ (by omega)).trans y1
 have F2 := extT F1 E2
 have c2 := OwnA.cells1 o2
 simp -implicitDefEqProofs (disch := omega) only [go_sem, x1, y1, x2, y2, c2, not_le_f, false_implies, implies_true, true_and, and_true]
 refine dE_call (clone90_then U (((hp.ext F2).outs).toA) hf.outs.1 fun v3 η3 o3 E3 => ?_)
 have g3 := E3.1
 have x3 := (E3.2 _ (by omega)).trans x2
 have y3 := (E3.2 _ (by omega)).trans y2
 have F3 := extT F2 E3
 have c3 := OwnA.cells1 o3
 simp -implicitDefEqProofs (disch := omega) only [go_sem, x1, y1, x2, y2, c2, x3, y3, c3, not_le_f, false_implies, implies_true, true_and, and_true]
 refine dE_call (clone90_then U (((hp.ext F3).slots).toA) hf.slots.1 fun v4 η4 o4 E4 => ?_)
 have g4 := E4.1
 have x4 := (E4.2 _ (by omega)).trans x3
 have y4 := (E4.2 _ (by omega)).trans y3
 have F4 := extT F3 E4
 have c4 := OwnA.cells1 o4
 simp -implicitDefEqProofs (disch := omega) only [go_sem, x1, y1, x2, y2, c2, x3, y3, c3, x4, y4, c4, not_le_f, false_implies, implies_true, true_and, and_true]
 refine dE_call (clone90_then U (((hp.ext F4).mems).toA) hf.mems.1 fun v5 η5 o5 E5 => ?_)
 have g5 := E5.1
 have x5 := (E5.2 _ (by omega)).trans x4
 have y5 := (E5.2 _ (by omega)).trans y4
 have F5 := extT F4 E5
 have c5 := OwnA.cells1 o5
 simp -implicitDefEqProofs (disch := omega) only [go_sem, x1, y1, x2, y2, c2, x3, y3, c3, x4, y4, c4, x5, y5, c5, not_le_f, false_implies, implies_true, true_and, and_true]
 refine dE_call (clone71_then U (((hp.ext F5).consts).toA) hf.consts.1 fun v6 η6 o6 E6 => ?_)
 have g6 := E6.1
 have x6 := (E6.2 _ (by omega)).trans x5
 have y6 := (E6.2 _ (by omega)).trans y5
 have F6 := extT F5 E6
 have c6 := OwnA.cells1 o6
 simp -implicitDefEqProofs (disch := omega) only [go_sem, x1, y1, x2, y2, c2, x3, y3, c3, x4, y4, c4, x5, y5, c5, x6, y6, c6, not_le_f, false_implies, implies_true, true_and, and_true]
 refine dE_call (clone91_then U (RdC.toA (hp.ext F6).code) hf.code.1 fun v7 η7 o7 E7 => ?_)
 have g7 := E7.1
 have x7 := (E7.2 _ (by omega)).trans x6
 have y7 := (E7.2 _ (by omega)).trans y6
 have F7 := extT F6 E7
 have c7 := OwnA.cells1 o7
 simp -implicitDefEqProofs (disch := omega) only [go_sem, x1, y1, x2, y2, c2, x3, y3, c3, x4, y4, c4, x5, y5, c5, x6, y6, c6, x7, y7, c7, not_le_f, false_implies, implies_true, true_and, and_true]
 refine h ⟨v2, v3, v4, v5, v6, v7⟩ _ (fun ηz hn hk => ?_) (F7.trans (.put (Nat.le_succ _)))
 exact ⟨RdA.toI (own_keep o2 (extT (extT (extT (extT E3 E4) E5) E6) E7) (by omega) (by omega) hn hk), RdA.toI (own_keep o3 (extT (extT (extT E4 E5) E6) E7) (by omega) (by omega) hn hk), RdA.toI (own_keep o4 (extT (extT E5 E6) E7) (by omega) (by omega) hn hk), RdA.toI (own_keep o5 (extT E6 E7) (by omega) (by omega) hn hk), RdA.toI (own_keep o6 E7 (by omega) (by omega) hn hk), RdA.toC (own_keep o7 (.refl _ _) (by omega) (by omega) hn hk)⟩
end Go.Proofs.Ytjljolnhmmbkoaa
namespace Go.Proofs.Ytjljolnhmmbkoaa
open Go.Eng Go.Plain
set_option autoImplicit false
set_option maxRecDepth 100000
variable {nat : ∀ [Deep], Nats}
theorem truth_call (U : Usual nat) (η : HN) (b : Bool) : CallN Try.prog nat 105 [.bool b] η (.int .i64 (truthN b)) η := by
 have : ∃ v η', CallN Try.prog nat 105 [.bool b] η v η' ∧ v = .int .i64 (truthN b) ∧ η' = η := by
  refine call_of (PT := pl105) Try.func105 rfl (U 105 (by decide)) ok105 rfl ?_
  cases b
  ·simp -implicitDefEqProofs (disch := omega) only [go_sem]; first | rfl | exact ⟨rfl, rfl⟩
  ·simp -implicitDefEqProofs (disch := omega) only [go_sem]; first | rfl | exact ⟨rfl, rfl⟩
 obtain ⟨v, η', k, rfl, rfl⟩ := this
 exact k
theorem quo_lt {a b : Nat} (ha : a < 18446744073709551616) : quoN .i64 a b < 18446744073709551616 := by
 have hr : ∀ z : Int, res .i64 z < 18446744073709551616 := fun z => @res_lt ⟨0, 0⟩ noEnv .i64 z
 unfold quoN
 cases nneg .i64 a
 ·exact hr _
 ·cases nneg .i64 b
  ·exact hr _
  ·exact Nat.lt_of_le_of_lt (Nat.div_le_self a b) ha
theorem rem_lt {a b : Nat} (ha : a < 18446744073709551616) : remN .i64 a b < 18446744073709551616 := by
 have hr : ∀ z : Int, res .i64 z < 18446744073709551616 := fun z => @res_lt ⟨0, 0⟩ noEnv .i64 z
 unfold remN
 cases nneg .i64 a
 ·exact hr _
 ·cases nneg .i64 b
  ·exact hr _
  ·exact Nat.lt_of_le_of_lt (Nat.mod_le a b) ha
theorem opF_lt {op a b : Nat} (ha : a < 18446744073709551616) (hb : b < 18446744073709551616) : opF op a b < 18446744073709551616 := by
 have t : ∀ c : Bool, truthN c < 18446744073709551616 := fun c => by cases c <;> decide
 unfold opF
 split
 ·exact Nat.mod_lt _ (by omega)
 split
 ·exact Nat.mod_lt _ (by omega)
 split
 ·exact Nat.mod_lt _ (by omega)
 split
 ·split
  ·omega
  ·exact quo_lt ha
 split
 ·split
  ·omega
  ·exact rem_lt ha
 split
 ·exact t _
 split
 ·exact t _
 split
 ·exact t _
 split
 ·exact Nat.lt_of_le_of_lt Nat.and_le_left ha
 split
 ·exact Nat.or_lt_two_pow (n := 64) ha hb
 ·exact Nat.xor_lt_two_pow (n := 64) ha hb
set_option maxHeartbeats 1000000 in
theorem op_call (U : Usual nat) (η : HN) (op a b : Nat) (hop : 8 ≤ op ∧ op ≤ 18) (ha : a < 18446744073709551616) (hb : b < 18446744073709551616) : CallN Try.prog nat 92 [.int .i64 op, .int .i64 a, .int .i64 b] η (.int .i64 (opF op a b)) η := by
 have : ∃ v η', CallN Try.prog nat 92 [.int .i64 op, .int .i64 a, .int .i64 b] η v η' ∧ v = .int .i64 (opF op a b) ∧ η' = η := by
  refine call_of (PT := pl92) Try.func92 rfl (U 92 (by decide)) ok92 rfl ?_
  have : op = 8 ∨ op = 9 ∨ op = 10 ∨ op = 11 ∨ op = 12 ∨ op = 13 ∨ op = 14 ∨ op = 15 ∨ op = 16 ∨ op = 17 ∨ op = 18 := by omega
  clear hop
  rcases this with rfl | rfl | rfl | rfl | rfl | rfl | rfl | rfl | rfl | rfl | rfl
  ·simp -implicitDefEqProofs (disch := omega) only [go_sem]; first | rfl | exact ⟨rfl, rfl⟩
  ·simp -implicitDefEqProofs (disch := omega) only [go_sem]; first | rfl | exact ⟨rfl, rfl⟩
  ·simp -implicitDefEqProofs (disch := omega) only [go_sem]; first | rfl | exact ⟨rfl, rfl⟩
  ·by_cases h0 : b = 0
   ·subst h0
    simp -implicitDefEqProofs (disch := omega) only [go_sem]; first | rfl | exact ⟨rfl, rfl⟩
   ·have e : opF 11 a b = quoN .i64 a b := if_neg h0
    rw [e]
    simp -implicitDefEqProofs (disch := omega) only [go_sem, and_true]
  ·by_cases h0 : b = 0
   ·subst h0
    simp -implicitDefEqProofs (disch := omega) only [go_sem]; first | rfl | exact ⟨rfl, rfl⟩
   ·have e : opF 12 a b = remN .i64 a b := if_neg h0
    rw [e]
    simp -implicitDefEqProofs (disch := omega) only [go_sem, and_true]
  ·simp -implicitDefEqProofs (disch := omega) only [go_sem]
   refine thenN_call ⟨_, _, truth_call U _ _, ?_⟩
   simp -implicitDefEqProofs (disch := omega) only [go_sem]; first | rfl | exact ⟨rfl, rfl⟩
  ·simp -implicitDefEqProofs only [go_sem]
   refine thenN_call ⟨_, _, truth_call U _ _, ?_⟩
   simp -implicitDefEqProofs (disch := omega) only [go_sem]; first | rfl | exact ⟨rfl, rfl⟩
  ·simp -implicitDefEqProofs only [go_sem]
   refine thenN_call ⟨_, _, truth_call U _ _, ?_⟩
   simp -implicitDefEqProofs (disch := omega) only [go_sem]; first | rfl | exact ⟨rfl, rfl⟩
  ·simp -implicitDefEqProofs (disch := omega) only [go_sem]; first | rfl | exact ⟨rfl, rfl⟩
  ·simp -implicitDefEqProofs (disch := omega) only [go_sem]; first | rfl | exact ⟨rfl, rfl⟩
  ·simp -implicitDefEqProofs (disch := omega) only [go_sem]; first | rfl | exact ⟨rfl, rfl⟩
 obtain ⟨v, η', k, rfl, rfl⟩ := this
 exact k
def fiI (η0 : HN) (a b : AV) (ks ls : List Nat) (m : Nat) (φ : FN) (η : HN) : Prop := η = η0 ∧ ∃ i, m = ks.length - i ∧ i ≤ ks.length ∧ φ 0 = a ∧ φ 1 = b ∧ φ 12 = a ∧ φ 13 = .int .i64 ks.length ∧ φ 14 = .int .i64 i ∧ ∀ j, j < i → (!(decide (ks.getD j 0 = 1) && (!decide (ls.getD j 0 = 0) && !decide (ls.getD j 0 = 1)))) = true
set_option maxHeartbeats 1000000 in
theorem fit_call (U : Usual nat) (η : HN) (y z : AV) (ks ls : List Nat) (hy : RdI .i64 η y ks) (hz : RdI .i64 η z ls) (hk : ks.length ≤ 1099511627776) (hl : ls.length ≤ 9223372036854775807) : CallN Try.prog nat 52 [y, z] η (.bool (fitF ks ls)) η := by
 have : ∃ v η', CallN Try.prog nat 52 [y, z] η v η' ∧ v = .bool (fitF ks ls) ∧ η' = η := by
  refine call_of (PT := pl52) Try.func52 rfl (U 52 (by decide)) ok52 rfl ?_
  have l1 := rdI_len hy hk
  have l2 := rdI_len9 hz hl
  unfold fitF
  by_cases he : ks.length = ls.length
  ·rw [decide_eq_true he, Bool.true_and]
   simp -implicitDefEqProofs (disch := omega) only [go_sem, l1, l2, Bool.not_true]
   refine wpN_loop (fiI η y z ks ls) ks.length ⟨rfl, 0, by omega, by omega, rfl, rfl, rfl, rfl, rfl, fun j hj => absurd hj (Nat.not_lt_zero j)⟩ ?_
   rintro m φ η1 ⟨rfl, i, hm, hi, p0, p1, p12, p13, p14, hall⟩
   by_cases hlt : i < ks.length
   ·obtain ⟨b, off, cap, ro, row, ye, hb, hbn, hr⟩ := hy.at hlt
    obtain ⟨b2, off2, cap2, ro2, row2, ze, hb2, hbn2, hr2⟩ := hz.at (show i < ls.length by omega)
    have more : ∀ c : Bool, (!(decide (ks.getD i 0 = 1) && (!decide (ls.getD i 0 = 0) && !decide (ls.getD i 0 = 1)))) = c → c = true → ∀ j, j < i + 1 → (!(decide (ks.getD j 0 = 1) && (!decide (ls.getD j 0 = 0) && !decide (ls.getD j 0 = 1)))) = true := fun c e1 e2 j hj => by
     by_cases h : j = i
     ·rw [h, e1, e2]
     ·exact hall j (by omega)
    rw [getD_get _ _ hlt, getD_get _ _ (show i < ls.length by omega)] at more
    rw [ye] at p12 p0
    rw [ze] at p1
    by_cases k1 : ks[i] = 1
    ·by_cases k2 : ls[i] = 0
     ·rw [k1] at hr
      rw [k2] at hr2
      simp -implicitDefEqProofs (disch := omega) only [go_sem, p0, p1, p12, p13, p14, hb, hr, hb2, hr2, Bool.not_true, Bool.not_false]
      exact ⟨_, by omega, rfl, i + 1, rfl, by omega, ye ▸ p0, ze ▸ p1, ye ▸ p12, p13, rfl, more true (by simp [k2]) rfl⟩
     by_cases k3 : ls[i] = 1
     ·rw [k1] at hr
      rw [k3] at hr2
      simp -implicitDefEqProofs (disch := omega) only [go_sem, p0, p1, p12, p13, p14, hb, hr, hb2, hr2, Bool.not_true, Bool.not_false]
      exact ⟨_, by omega, rfl, i + 1, rfl, by omega, ye ▸ p0, ze ▸ p1, ye ▸ p12, p13, rfl, more true (by simp [k3]) rfl⟩
     ·rw [k1] at hr
      have bad : ((List.range ks.length).all fun i => !(decide (ks.getD i 0 = 1) && (!decide (ls.getD i 0 = 0) && !decide (ls.getD i 0 = 1)))) = false := by
       cases hq : ((List.range ks.length).all fun i => !(decide (ks.getD i 0 = 1) && (!decide (ls.getD i 0 = 0) && !decide (ls.getD i 0 = 1)))) with
       | false => rfl
       | true =>
        rw [List.all_eq_true] at hq
        have := hq i (List.mem_range.2 hlt)
        rw [getD_get _ _ hlt, getD_get _ _ (show i < ls.length by omega), decide_eq_true k1, decide_eq_false k2, decide_eq_false k3] at this
        cases this
      rw [bad]
      simp -implicitDefEqProofs (disch := omega) only [go_sem, p0, p1, p12, p13, p14, hb, hr, hb2, hr2, Bool.not_true, Bool.not_false]
    ·simp -implicitDefEqProofs (disch := omega) only [go_sem, p0, p1, p12, p13, p14, hb, hr, hb2, hr2, Bool.not_true, Bool.not_false]
     exact ⟨_, by omega, rfl, i + 1, rfl, by omega, ye ▸ p0, ze ▸ p1, ye ▸ p12, p13, rfl, more true (by simp [k1]) rfl⟩
   ·obtain rfl : i = ks.length := by omega
    have good : ((List.range ks.length).all fun i => !(decide (ks.getD i 0 = 1) && (!decide (ls.getD i 0 = 0) && !decide (ls.getD i 0 = 1)))) = true := by
     rw [List.all_eq_true]; intro j hj; exact hall j (List.mem_range.1 hj)
    rw [good]
    simp -implicitDefEqProofs (disch := omega) only [go_sem, p0, p1, p12, p13, p14]
  ·rw [decide_eq_false he, Bool.false_and]
   simp -implicitDefEqProofs (disch := omega) only [go_sem, l1, l2, Bool.not_false]
 obtain ⟨v, η', k, rfl, rfl⟩ := this
 exact k
end Go.Proofs.Ytjljolnhmmbkoaa
namespace Go.Proofs.Ytjljolnhmmbkoaa
open Go.Eng Go.Plain
set_option autoImplicit false
set_option maxRecDepth 100000
variable {nat : ∀ [Deep], Nats}
def i64s (l : List Nat) : List AV := l.map (.int .i64)
theorem i64s_len (l : List Nat) : (i64s l).length = l.length := List.length_map _
def Held (lo hi : Nat) (η : HN) (z : PV) (p : PD) : Prop := hi ≤ η.nx ∧ ∀ η' : HN, η.nx ≤ η'.nx → (∀ b, lo ≤ b → b < hi → η'.f b = η.f b) → IsP η' z p
theorem Held.isP {lo hi : Nat} {η : HN} {z : PV} {p : PD} (h : Held lo hi η z p) : IsP η z p := h.2 η (Nat.le_refl _) fun _ _ _ => rfl
theorem Held.of {lo hi : Nat} {η η' : HN} {z : PV} {p : PD} (h : Held lo hi η z p) (hn : η.nx ≤ η'.nx) (hk : ∀ b, lo ≤ b → b < hi → η'.f b = η.f b) : Held lo hi η' z p :=
 ⟨Nat.le_trans h.1 hn, fun η2 h1 h2 => h.2 η2 (Nat.le_trans hn h1) fun b a c => (h2 b a c).trans (hk b a c)⟩
def MemAt (mb : Nat) (η : HN) (y : AV) (ms : List Nat) : Prop := ((y = .nilslice ∨ ∃ b off cap, y = .slice b off 0 cap) ∧ ms = []) ∨ ∃ cap, y = .slice mb 0 ms.length cap ∧ η.f mb = .live false (i64s ms)
structure MachAt (lo hi : Nat) (η : HN) (mp mb : Nat) (z : PV) (p : PD) (ms : List Nat) (ticks : Nat) : Prop where
 held : Held lo hi η z p
 at_ : hi ≤ mp ∧ mp < η.nx
 mat : hi ≤ mb ∧ mb < η.nx ∧ mb ≠ mp
 cells : ∃ y, η.f mp = .live false [z.z1, z.z2, z.z3, z.z4, z.z5, z.z6, y, .int .i64 ticks] ∧ MemAt mb η y ms
 len : ms.length = p.mems.length
 lt : (∀ n ∈ ms, n < 18446744073709551616) ∧ ticks < 18446744073709551616
theorem MachAt.keep {lo hi mp mb ticks : Nat} {η η' : HN} {z : PV} {p : PD} {ms : List Nat} (M : MachAt lo hi η mp mb z p ms ticks) (hn : η.nx ≤ η'.nx) (hk : ∀ b, b < η.nx → (lo ≤ b ∧ b < hi ∨ b = mp ∨ b = mb) → η'.f b = η.f b) : MachAt lo hi η' mp mb z p ms ticks := by
 have h1 := M.held.1
 have h2 := M.at_
 have h3 := M.mat
 obtain ⟨y, c1, c2⟩ := M.cells
 refine ⟨M.held.of hn fun b a c => hk b (by omega) (.inl ⟨a, c⟩), ⟨h2.1, by omega⟩, ⟨h3.1, by omega, h3.2.2⟩, ⟨y, (hk mp h2.2 (.inr (.inl rfl))).trans c1, ?_⟩, M.len, M.lt⟩
 rcases c2 with c2 | ⟨cap, e1, e2⟩
 ·exact .inl c2
 ·exact .inr ⟨cap, e1, (hk mb h3.2.1 (.inr (.inr rfl))).trans e2⟩
set_option maxHeartbeats 1000000 in
theorem reset_raw (U : Usual nat) {η : HN} {lo hi mp : Nat} {z : PV} {p : PD} {y t : AV} {Q : AV → HN → Prop} (hh : Held lo hi η z p) (hf : Fine p) (hm : η.f mp = .live false [z.z1, z.z2, z.z3, z.z4, z.z5, z.z6, y, t]) (hmp : hi ≤ mp ∧ mp < η.nx)
  (h : ∀ v η', MachAt lo hi η' mp η.nx z p (List.replicate p.mems.length 0) 0 → η.nx ≤ η'.nx → (∀ b, b < η.nx → b ≠ mp → η'.f b = η.f b) → Q v η') : ∃ v η', CallN Try.prog nat 27 [.ptr mp 0] η v η' ∧ Q v η' := by
 refine call_of (PT := pl27) Try.func27 rfl (U 27 (by decide)) ok27 rfl ?_
 have h0 := hh.1
 have l4 := rdI_len hh.isP.mems hf.mems.1
 have b4 := hf.mems.1
 have hc : ¬8 = 0 ∧ p.mems.length * 8 ≤ 140737488355328 := ⟨by decide, by omega⟩
 have hn : mp ≠ η.nx := by omega
 simp -implicitDefEqProofs (disch := omega) only [go_sem, hm, l4, if_pos hc]
 refine h _ _ ⟨?_, ⟨hmp.1, by show mp < η.nx + 1; omega⟩, ⟨h0, Nat.lt_succ_self _, by omega⟩, ⟨_, ?_, .inr ⟨.kn p.mems.length, by rw [List.length_replicate], ?_⟩⟩, List.length_replicate, ⟨fun n hn => by rw [List.mem_replicate] at hn; omega, by omega⟩⟩ ?_ ?_
 ·exact hh.of (by show η.nx ≤ η.nx + 1; omega) fun b _ hb => by simp -implicitDefEqProofs (disch := omega) only [go_sem]
 ·simp -implicitDefEqProofs (disch := omega) only [go_sem]
 ·simp -implicitDefEqProofs (disch := omega) only [go_sem]
  unfold i64s; rw [List.map_replicate]
 ·show η.nx ≤ η.nx + 1; omega
 ·intro b hb hbm
  simp -implicitDefEqProofs (disch := omega) only [go_sem]
theorem reset_then (U : Usual nat) {η : HN} {lo hi mp mb ticks : Nat} {z : PV} {p : PD} {ms : List Nat} {Q : AV → HN → Prop} (M : MachAt lo hi η mp mb z p ms ticks) (hf : Fine p)
  (h : ∀ v η', MachAt lo hi η' mp η.nx z p (List.replicate p.mems.length 0) 0 → η.nx ≤ η'.nx → (∀ b, b < η.nx → b ≠ mp → η'.f b = η.f b) → Q v η') : ∃ v η', CallN Try.prog nat 27 [.ptr mp 0] η v η' ∧ Q v η' := by
 obtain ⟨y, c1, _⟩ := M.cells
 exact reset_raw U M.held hf c1 M.at_ h
set_option maxHeartbeats 1000000 in
theorem new_then (U : Usual nat) {η : HN} {z : PV} {p : PD} {Q : AV → HN → Prop} (hp : IsP η z p) (hf : Fine p) (hno : (checkF p).2 ≠ 0 → ∀ η', ExtB η.nx η η' → Q (.tup [.nilptr, .int .i64 13]) η')
  (hyes : (checkF p).2 = 0 → ∀ lo hi z' mp mb η', MachAt lo hi η' mp mb z' p (List.replicate p.mems.length 0) 0 → η.nx ≤ lo ∧ lo ≤ hi → ExtB η.nx η η' → Q (.tup [.ptr mp 0, .int .i64 0]) η') : ∃ v η', CallN Try.prog nat 23 [.agg z.cells] η v η' ∧ Q v η' := by
 refine call_of (PT := pl23) Try.func23 rfl (U 23 (by decide)) ok23 rfl ?_
 have E1 : ExtB η.nx η (η.new (.live false z.cells)) := extN (.refl _ _)
 have x1 : (η.new (.live false z.cells)).f η.nx = .live false z.cells := by show (if η.nx = η.nx then _ else _) = _; rw [if_pos rfl]
 have n1 : (η.new (.live false z.cells)).nx = η.nx + 1 := rfl
 simp -implicitDefEqProofs (disch := omega) only [go_sem]
 refine thenN_call (check_then U z p (hp.ext E1) hf fun η2 E2 => ?_)
 have x2 := (E2.2 _ (by omega)).trans x1
 have F2 := extT E1 E2
 have g2 := E2.1
 by_cases h0 : (checkF p).2 = 0
 ·rw [decide_eq_true h0]
  simp -implicitDefEqProofs (disch := omega) only [go_sem, Bool.not_true]
  have E3 : ExtB η2.nx η2 ((η2.new (.live false [.int .i64 0, .int .i64 0])).put η2.nx (.live false [.int .i64 (checkF p).1, .int .i64 (checkF p).2])) := extP (extN (.refl _ _))
  have n3 : ((η2.new (.live false [.int .i64 0, .int .i64 0])).put η2.nx (.live false [.int .i64 (checkF p).1, .int .i64 (checkF p).2])).nx = η2.nx + 1 := rfl
  have x3 := (E3.2 _ (by omega)).trans x2
  have F3 := extT F2 E3
  simp -implicitDefEqProofs (disch := omega) only [go_sem, x2]
  generalize (η2.new (.live false [.int .i64 0, .int .i64 0])).put η2.nx (.live false [.int .i64 (checkF p).1, .int .i64 (checkF p).2]) = η3 at *
  refine thenN_call (copy_then U (hp.ext F3) hf fun z' η4 hp4 E4 => ?_)
  have F4 := extT F3 E4
  have g3 := E3.1
  have g4 := E4.1
  simp -implicitDefEqProofs (disch := omega) only [go_sem]
  have hh : Held η3.nx η4.nx (η4.new (.live false [z'.z1, z'.z2, z'.z3, z'.z4, z'.z5, z'.z6, .nilslice, .int .i64 0])) z' p := by
   refine ⟨Nat.le_succ _, fun ηz hn hk => hp4 ηz (Nat.le_trans (Nat.le_succ _) hn) fun b b1 b2 => (hk b b1 b2).trans ?_⟩
   show (if b = η4.nx then _ else _) = _
   rw [if_neg (by omega)]
  refine thenN_call (reset_raw U hh hf (mp := η4.nx) (by show (if η4.nx = η4.nx then _ else _) = _; rw [if_pos rfl]) ⟨Nat.le_refl _, Nat.lt_succ_self _⟩ fun v5 η5 M5 g5 k5 => ?_)
  simp -implicitDefEqProofs (disch := omega) only [go_sem]
  have g5 : η4.nx + 1 ≤ η5.nx := g5
  refine hyes h0 η3.nx η4.nx z' η4.nx (η4.nx + 1) η5 M5 ⟨by omega, by omega⟩ ⟨by omega, fun b hb => (k5 b (by show b < η4.nx + 1; omega) (by omega)).trans ?_⟩
  show (if b = η4.nx then _ else _) = _
  rw [if_neg (by omega)]
  exact F4.2 b hb
 ·rw [decide_eq_false h0]
  simp -implicitDefEqProofs (disch := omega) only [go_sem, Bool.not_false]
  exact hno h0 _ (F2.trans ((extP (extN (.refl _ _))).mono F2.1))
end Go.Proofs.Ytjljolnhmmbkoaa
namespace Go.Proofs.Ytjljolnhmmbkoaa
open Go.Eng Go.Plain
set_option autoImplicit false
set_option maxRecDepth 100000
variable {nat : ∀ [Deep], Nats}
def SlAt (η : HN) (T : Nat → Nat) (t : Nat) (y : AV) (l : List Nat) : Prop := ((y = .nilslice ∨ ∃ b off cap, y = .slice b off 0 cap) ∧ l = []) ∨ ∃ b cap, y = .slice b 0 l.length cap ∧ b < η.nx ∧ T b = t ∧ η.f b = .live false (i64s l)
theorem i64s_at {l : List Nat} {i : Nat} (h : i < l.length) : (i64s l)[i]? = some (.int .i64 (l.getD i 0)) := by
 unfold i64s
 rw [List.getElem?_map, List.getElem?_eq_getElem h, List.getD_eq_getElem?_getD, List.getElem?_eq_getElem h]; rfl
theorem i64s_set (l : List Nat) (i x : Nat) : (i64s l).set i (.int .i64 x) = i64s (l.set i x) := by unfold i64s; rw [List.map_set]
theorem SlAt.at {η : HN} {T : Nat → Nat} {t : Nat} {y : AV} {l : List Nat} (h : SlAt η T t y l) {i : Nat} (hi : i < l.length) : ∃ b cap, y = .slice b 0 l.length cap ∧ b < η.nx ∧ T b = t ∧ η.f b = .live false (i64s l) := by
 rcases h with ⟨_, rfl⟩ | h
 ·simp at hi
 ·exact h
theorem SlAt.of {η η' : HN} {T : Nat → Nat} {t : Nat} {y : AV} {l : List Nat} (h : SlAt η T t y l) (hn : η.nx ≤ η'.nx) (hk : ∀ b, b < η.nx → T b = t → η'.f b = η.f b) : SlAt η' T t y l := by
 rcases h with h | ⟨b, cap, h1, h2, h3, h4⟩
 ·exact .inl h
 ·exact .inr ⟨b, cap, h1, by omega, h3, (hk b h2 h3).trans h4⟩
structure StepAt (η : HN) (T : Nat → Nat) (sp : Nat) (yi : AV) (s : Sm) (ys yo ym : AV) : Prop where
 cells : η.f sp = .live false [ys, yo, ym, yi]
 tag : T sp = 4 ∧ sp < η.nx
 slots : SlAt η T 1 ys s.slots
 outs : SlAt η T 2 yo s.outs
 mems : SlAt η T 3 ym s.mems
end Go.Proofs.Ytjljolnhmmbkoaa
