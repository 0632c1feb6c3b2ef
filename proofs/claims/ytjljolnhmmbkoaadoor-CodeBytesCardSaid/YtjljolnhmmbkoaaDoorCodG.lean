/- What is proved: the law's own waking gives true. programs, bytes, ints that come in, as lists. Conditions: as each theorem says. -/
import Derived.Test.YtjljolnhmmbkoaaDoorCodF
import Derived.Test.YtjljolnhmmbkoaaDoorJoinW
import Derived.Test.YtjljolnhmmbkoaaDoorWM
set_option linter.unusedVariables false
set_option linter.unusedSimpArgs false
set_option linter.unusedSectionVars false
namespace Go.Proofs.YtjljolnhmmbkoaaDoor
open Go.Eng Go.Plain
set_option autoImplicit false
set_option maxRecDepth 100000
abbrev D0 : Deep := ⟨6, 1000000⟩
theorem good : progOk Tryd.prog = true := by kernel_rfl
theorem few : Tryd.prog.globals.size ≤ @mostBlocks D0 := Nat.le_of_ble_eq_true (by kernel_rfl)
def tabA : List (List (List UInt8) × List UInt8 × List UInt8) := [([[97, 100, 100], [49], [50], [51]], [32], [97, 100, 100, 32, 49, 32, 50, 32, 51])]
theorem tabA_ok : joinsOk tabA := by
  intro e he
  unfold tabA at he
  rcases List.mem_cons.1 he with rfl | he
  · exact ⟨by decide, by decide, by decide, by decide⟩
  · cases he
noncomputable def nat0 : @Nats D0 := @natsOf D0 [(40, @joinNat D0 tabA)]
theorem nat0_ok : @NatsOK D0 noEnv Tryd.prog nat0 := @natsOf_cons D0 noEnv _ _ _ _ (@joinNat_ok D0 noEnv tabA tabA_ok) (@natsOf_nil D0 noEnv _)
theorem wakes8 : @runA D0 Tryd.prog nat0 200 8 [] = true := by kernel_rfl
theorem awake8 [Deep] : @NatOK _ noEnv Tryd.prog 8 trueNat :=
  @trueNat_ok _ noEnv _ _ (by kernel_rfl) fun w => @runA_calls D0 noEnv _ good few _ nat0_ok _ _ _ _ (@VL.nil D0 noEnv _) wakes8 w
noncomputable def nat1 [Deep] : Nats := natsOf [(8, trueNat)]
theorem nat1_ok [Deep] : @NatsOK _ noEnv Tryd.prog nat1 := @natsOf_cons _ noEnv _ _ _ _ awake8 (@natsOf_nil _ noEnv _)
theorem usual1 : Usual nat1 := fun f hf => by
  intro _
  have h : Nat.beq 8 f = false := beq_false.2 fun e => hf (by rw [← e]; decide)
  show ifB (Nat.beq 8 f) _ _ = none
  rw [h]; rfl
end Go.Proofs.YtjljolnhmmbkoaaDoor
namespace Go.Eng
open Go.ChangeShapes Go.WideShapes
set_option autoImplicit false
theorem lay_slice {H : Type} {enc : TypeId × Value → H} {P : Program} {w : World} {t e : TypeId} {v : Value} {d : DataW H} {p : List MemPlace} {base : Nat} (m : Nat) (hp : plainTy P m t = true) (ht : P.underlying t = some (.slice e)) (hv : Value.okWide P w .any base t v) (h : DataW.Trod enc P w 0 (fun _ => true) true t v d p) :
    LayC P w [v] fun η z => RepT P η m t z d := by
  obtain ⟨a, len, cap, rfl⟩ := okWide_slice ht hv
  exact lay_cell m hp rfl h
theorem lay_int {H : Type} {enc : TypeId × Value → H} {P : Program} {w : World} {t : TypeId} {k : IntKind} {v : Value} {d : DataW H} {p : List MemPlace} {base : Nat} (m : Nat) (hp : plainTy P m t = true) (ht : P.underlying t = some (.int k)) (hv : Value.okWide P w .any base t v) (h : DataW.Trod enc P w 0 (fun _ => true) true t v d p) :
    LayC P w [v] fun η z => RepT P η m t z d := by
  obtain ⟨n, rfl⟩ := okWide_int ht hv
  exact lay_cell m hp rfl h
theorem lay_bool {H : Type} {enc : TypeId × Value → H} {P : Program} {w : World} {t : TypeId} {v : Value} {d : DataW H} {p : List MemPlace} {base : Nat} (m : Nat) (hp : plainTy P m t = true) (ht : P.underlying t = some .bool) (hv : Value.okWide P w .any base t v) (h : DataW.Trod enc P w 0 (fun _ => true) true t v d p) :
    LayC P w [v] fun η z => RepT P η m t z d := by
  obtain ⟨n, rfl⟩ := okWide_bool ht hv
  exact lay_cell m hp rfl h
end Go.Eng
namespace Go.Proofs.YtjljolnhmmbkoaaDoor
open Go.Eng Go.Plain Go.ChangeShapes Go.WideShapes
set_option autoImplicit false
set_option maxRecDepth 100000
theorem cells48 : Tryd.prog.cellsOf 48 = 1 := by kernel_rfl
theorem cells2 : Tryd.prog.cellsOf 2 = 1 := by kernel_rfl
theorem cells3 : Tryd.prog.cellsOf 3 = 1 := by kernel_rfl
theorem cells23 : Tryd.prog.cellsOf 23 = 1 := by kernel_rfl
theorem cells24 : Tryd.prog.cellsOf 24 = 1 := by kernel_rfl
theorem cells25 : Tryd.prog.cellsOf 25 = 1 := by kernel_rfl
theorem cells36 : Tryd.prog.cellsOf 36 = 4 := by kernel_rfl
theorem cells27 : Tryd.prog.cellsOf 27 = 6 := by kernel_rfl
theorem plain27 : plainTy Tryd.prog 6 27 = true := by kernel_rfl
section
variable {H : Type} {η : HN}
theorem rep_int {m : Nat} {t : TypeId} {cs : List AV} {d : DataW H} (ht : Tryd.prog.underlying t = some (.int .i64)) (h : RepT Tryd.prog η (m + 1) t cs d) : ∃ n, n < 18446744073709551616 ∧ cs = [.int .i64 n] := by
  rw [RepT, ht] at h
  obtain ⟨z, rfl, _⟩ := h
  exact ⟨_, @res_lt ⟨0, 0⟩ noEnv .i64 z, rfl⟩
abbrev R64 := { n : Nat // n < 18446744073709551616 }
theorem rep_ints {m : Nat} {t e : TypeId} {cs : List AV} {d : DataW H} (ht : Tryd.prog.underlying t = some (.slice e)) (he : Tryd.prog.underlying e = some (.int .i64)) (hc : Tryd.prog.cellsOf e = 1) (h : RepT Tryd.prog η (m + 2) t cs d) :
    ∃ y l, cs = [y] ∧ RdI .i64 η y l ∧ l.length ≤ 9223372036854775807 ∧ ∀ n ∈ l, n < 18446744073709551616 := by
  obtain ⟨y, l, e1, e2, e3⟩ := rep_slice (α := R64) (fun a => [.int .i64 a.1]) ht h (fun a => by rw [hc]; rfl) fun z x hx => by
    obtain ⟨n, hn, e⟩ := rep_int he hx
    exact ⟨⟨n, hn⟩, e⟩
  refine ⟨y, l.map (·.1), e1, ?_, by rw [List.length_map]; unfold maxLen at e3; omega, fun n hn => by obtain ⟨a, _, rfl⟩ := List.mem_map.1 hn; exact a.2⟩
  unfold RdI
  rw [hc] at e2
  rw [List.map_map]
  exact e2
abbrev I64 := { i : Ins // i.op < 18446744073709551616 ∧ i.a < 18446744073709551616 ∧ i.b < 18446744073709551616 ∧ i.c < 18446744073709551616 }
theorem fields36 : ∃ fs : Array Field, Tryd.prog.underlying 36 = some (.struct fs) ∧ fs.map (fun f => (f.offset, f.type)) = #[(0, 3), (1, 3), (2, 3), (3, 3)] := by
  exact ⟨_, Tryd.underlying36, by simp⟩
theorem fields27 : ∃ fs : Array Field, Tryd.prog.underlying 27 = some (.struct fs) ∧ fs.map (fun f => (f.offset, f.type)) = #[(0, 23), (1, 23), (2, 23), (3, 23), (4, 24), (5, 25)] := by
  exact ⟨_, Tryd.underlying27, by simp⟩
/-- the fields of a struct, one cell each -/
theorem rep_field {m i o t' : Nat} {fs : Array Field} {xs : List (DataW H)} {cs : List AV} {fl : Array (Nat × TypeId)} (hfl : fs.map (fun f => (f.offset, f.type)) = fl) (hi : fl[i]? = some (o, t')) (hx : xs.length = fs.size)
    (h : ∀ (i : Nat) (f : Field) (x : DataW H), fs[i]? = some f → xs[i]? = some x → RepT Tryd.prog η m f.type ((cs.drop f.offset).take (Tryd.prog.cellsOf f.type)) x) : ∃ x : DataW H, RepT Tryd.prog η m t' ((cs.drop o).take (Tryd.prog.cellsOf t')) x := by
  subst hfl
  rw [Array.getElem?_map] at hi
  cases hf : fs[i]? with
  | none => rw [hf] at hi; simp at hi
  | some f =>
    rw [hf] at hi
    simp at hi
    obtain ⟨rfl, rfl⟩ := hi
    have hlt : i < fs.size := (Array.getElem?_eq_some_iff.1 hf).1
    exact ⟨_, h i f xs[i] hf (List.getElem?_eq_getElem (by omega))⟩
theorem rep_ins {m : Nat} {cs : List AV} {d : DataW H} (h : RepT Tryd.prog η (m + 2) 36 cs d) : ∃ a : I64, cs = a.1.cells := by
  obtain ⟨fs, hu, hfl⟩ := fields36
  rw [RepT, hu] at h
  obtain ⟨xs, _, hx, hl, h⟩ := h
  rw [cells36] at hl
  obtain ⟨_, h0⟩ := rep_field hfl (i := 0) (o := 0) (t' := 3) rfl hx h
  obtain ⟨_, h1⟩ := rep_field hfl (i := 1) (o := 1) (t' := 3) rfl hx h
  obtain ⟨_, h2⟩ := rep_field hfl (i := 2) (o := 2) (t' := 3) rfl hx h
  obtain ⟨_, h3⟩ := rep_field hfl (i := 3) (o := 3) (t' := 3) rfl hx h
  obtain ⟨a, la, ea⟩ := rep_int Tryd.underlying3 h0
  obtain ⟨b, lb, eb⟩ := rep_int Tryd.underlying3 h1
  obtain ⟨c, lc, ec⟩ := rep_int Tryd.underlying3 h2
  obtain ⟨d, ld, ed⟩ := rep_int Tryd.underlying3 h3
  rw [cells3] at ea eb ec ed
  refine ⟨⟨⟨a, b, c, d⟩, la, lb, lc, ld⟩, ?_⟩
  match cs, hl with
  | [w, x, y, z], _ => simp at ea eb ec ed; subst ea eb ec ed; rfl
theorem rep_prog {m : Nat} {cs : List AV} {d : DataW H} (h : RepT Tryd.prog η (m + 4) 27 cs d) : ∃ z p, cs = PV.cells z ∧ IsP η z p ∧ Resd p := by
  obtain ⟨fs, hu, hfl⟩ := fields27
  rw [RepT, hu] at h
  obtain ⟨xs, _, hx, hl, h⟩ := h
  rw [cells27] at hl
  obtain ⟨_, h0⟩ := rep_field hfl (i := 0) (o := 0) (t' := 23) rfl hx h
  obtain ⟨_, h1⟩ := rep_field hfl (i := 1) (o := 1) (t' := 23) rfl hx h
  obtain ⟨_, h2⟩ := rep_field hfl (i := 2) (o := 2) (t' := 23) rfl hx h
  obtain ⟨_, h3⟩ := rep_field hfl (i := 3) (o := 3) (t' := 23) rfl hx h
  obtain ⟨_, h4⟩ := rep_field hfl (i := 4) (o := 4) (t' := 24) rfl hx h
  obtain ⟨_, h5⟩ := rep_field hfl (i := 5) (o := 5) (t' := 25) rfl hx h
  obtain ⟨y0, l0, e0, r0, b0, c0⟩ := rep_ints Tryd.underlying23 Tryd.underlying48 cells48 h0
  obtain ⟨y1, l1, e1, r1, b1, c1⟩ := rep_ints Tryd.underlying23 Tryd.underlying48 cells48 h1
  obtain ⟨y2, l2, e2, r2, b2, c2⟩ := rep_ints Tryd.underlying23 Tryd.underlying48 cells48 h2
  obtain ⟨y3, l3, e3, r3, b3, c3⟩ := rep_ints Tryd.underlying23 Tryd.underlying48 cells48 h3
  obtain ⟨y4, l4, e4, r4, b4, c4⟩ := rep_ints Tryd.underlying24 Tryd.underlying2 cells2 h4
  obtain ⟨y5, l5, e5, r5, b5⟩ := rep_slice (α := I64) (fun a => a.1.cells) Tryd.underlying25 h5 (fun a => by rw [cells36]; rfl) fun z x hx => rep_ins hx
  rw [cells23] at e0 e1 e2 e3
  rw [cells24] at e4
  rw [cells25] at e5
  refine ⟨⟨y0, y1, y2, y3, y4, y5⟩, ⟨l0, l1, l2, l3, l4, l5.map (·.1)⟩, ?_, ⟨r0, r1, r2, r3, r4, ?_⟩, ⟨⟨b0, c0⟩, ⟨b1, c1⟩, ⟨b2, c2⟩, ⟨b3, c3⟩, ⟨b4, c4⟩, by rw [List.length_map]; unfold maxLen at b5; omega, fun i hi => by obtain ⟨a, _, rfl⟩ := List.mem_map.1 hi; exact a.2⟩⟩
  · match cs, hl with
    | [q, r, s, t, u, v], _ => simp at e0 e1 e2 e3 e4 e5; subst e0 e1 e2 e3 e4 e5; rfl
  · unfold RdC
    rw [cells36] at r5
    rw [List.map_map]
    exact r5
theorem cells31 : Tryd.prog.cellsOf 31 = 1 := by kernel_rfl
theorem cells5 : Tryd.prog.cellsOf 5 = 1 := by kernel_rfl
theorem plain31 : plainTy Tryd.prog 6 31 = true := by kernel_rfl
theorem plain3 : plainTy Tryd.prog 6 3 = true := by kernel_rfl
theorem plain4 : plainTy Tryd.prog 6 4 = true := by kernel_rfl
theorem plain5 : plainTy Tryd.prog 6 5 = true := by kernel_rfl
theorem plain36 : plainTy Tryd.prog 6 36 = true := by kernel_rfl
theorem rep_bytes {m : Nat} {cs : List AV} {d : DataW H} (h : RepT Tryd.prog η (m + 2) 31 cs d) : ∃ y l, cs = [y] ∧ RdA 1 η y l.length (u8s l) ∧ l.length ≤ 9223372036854775807 ∧ ∀ n ∈ l, n < 256 := by
  obtain ⟨y, l, e1, e2, e3⟩ := rep_slice (α := { n : Nat // n < 256 }) (fun a => [.int .u8 a.1]) Tryd.underlying31 h (fun a => by rw [cells5]; rfl) fun z x hx => by
    rw [RepT, Tryd.underlying5] at hx
    obtain ⟨n, rfl, _⟩ := hx
    exact ⟨⟨_, @res_lt ⟨0, 0⟩ noEnv .u8 n⟩, rfl⟩
  rw [cells5] at e2
  have e2 : RdI .u8 η y (l.map (·.1)) := by unfold RdI; rw [List.map_map]; exact e2
  refine ⟨y, l.map (·.1), e1, RdI.toA e2, by rw [List.length_map]; unfold maxLen at e3; omega, fun n hn => by obtain ⟨a, _, rfl⟩ := List.mem_map.1 hn; exact a.2⟩
theorem rep_bool {m : Nat} {cs : List AV} {d : DataW H} (h : RepT Tryd.prog η (m + 1) 4 cs d) : ∃ b, cs = [.bool b] := by
  rw [RepT, Tryd.underlying4] at h
  obtain ⟨b, rfl, _⟩ := h
  exact ⟨b, rfl⟩
theorem rep_u8 {m : Nat} {cs : List AV} {d : DataW H} (h : RepT Tryd.prog η (m + 1) 5 cs d) : ∃ n, n < 256 ∧ cs = [.int .u8 n] := by
  rw [RepT, Tryd.underlying5] at h
  obtain ⟨z, rfl, _⟩ := h
  exact ⟨_, @res_lt ⟨0, 0⟩ noEnv .u8 z, rfl⟩
end
end Go.Proofs.YtjljolnhmmbkoaaDoor
