/- What is proved: a machine in the heap; what is read of it; the document's operators. Conditions: as each theorem says. -/
import Derived.Test.YtgccjneplchojaaGreatDoorPlainM
import Derived.Test.YtgccjneplchojaaGreatDoorFacts
set_option linter.unusedVariables false
set_option linter.unusedSimpArgs false
set_option linter.unusedSectionVars false
namespace Go.Proofs.YtgccjneplchojaaGreatDoor
open Go.Eng Go.Plain
set_option autoImplicit false
set_option maxRecDepth 100000
variable {nat : ∀ [Deep], Nats}
/-- all functions but the known ones are walked -/
def Usual (nat : ∀ [Deep], Nats) : Prop := ∀ f : Nat, f ∉ [22, 23] → ∀ [Deep], nat f = none
end Go.Proofs.YtgccjneplchojaaGreatDoor
namespace Go.Proofs.YtgccjneplchojaaGreatDoor
open Go.Eng Go.Plain
set_option autoImplicit false
set_option maxRecDepth 100000
variable {nat : ∀ [Deep], Nats}
/-- a program's six values -/
structure PV where
  z1 : AV
  z2 : AV
  z3 : AV
  z4 : AV
  z5 : AV
  z6 : AV
abbrev PV.cells (z : PV) : List AV := [z.z1, z.z2, z.z3, z.z4, z.z5, z.z6]
def RdC (η : HN) (y : AV) (l : List Ins) : Prop := RdR 4 η y (l.map Ins.cells)
/-- they read as the lists do -/
structure IsP (η : HN) (z : PV) (p : PD) : Prop where
  ins : RdI .i64 η z.z1 p.ins
  outs : RdI .i64 η z.z2 p.outs
  slots : RdI .i64 η z.z3 p.slots
  mems : RdI .i64 η z.z4 p.mems
  consts : RdI .i64 η z.z5 p.consts
  code : RdC η z.z6 p.code
/-- numbers are residues, lists are not too long -/
structure Fine (p : PD) : Prop where
  ins : p.ins.length ≤ 1099511627776 ∧ ∀ n ∈ p.ins, n < 18446744073709551616
  outs : p.outs.length ≤ 1099511627776 ∧ ∀ n ∈ p.outs, n < 18446744073709551616
  slots : p.slots.length ≤ 1099511627776 ∧ ∀ n ∈ p.slots, n < 18446744073709551616
  mems : p.mems.length ≤ 1099511627776 ∧ ∀ n ∈ p.mems, n < 18446744073709551616
  consts : p.consts.length ≤ 1099511627776 ∧ ∀ n ∈ p.consts, n < 18446744073709551616
  code : p.code.length ≤ 1099511627776 ∧ ∀ i ∈ p.code, i.op < 18446744073709551616 ∧ i.a < 18446744073709551616 ∧ i.b < 18446744073709551616 ∧ i.c < 18446744073709551616
theorem rdI_ext {k : IntKind} {η η' : HN} {y : AV} {l : List Nat} (h : RdI k η y l) (e : ExtB η.nx η η') : RdI k η' y l := RdR.ext (base := η.nx) h e
theorem IsP.ext {η η' : HN} {z : PV} {p : PD} (h : IsP η z p) (e : ExtB η.nx η η') : IsP η' z p :=
  ⟨rdI_ext h.ins e, rdI_ext h.outs e, rdI_ext h.slots e, rdI_ext h.mems e, rdI_ext h.consts e, RdR.ext (base := η.nx) h.code e⟩
theorem rdI_len {k : IntKind} {η : HN} {y : AV} {l : List Nat} (h : RdI k η y l) (hl : l.length ≤ 1099511627776) : ∀ e y' η', lenN (.slice e 1 y') y η' = .ok (.int .i64 l.length) η' := fun e y' η' => by
  have := RdR.len (e := e) (y' := y') (η' := η') h (by simp; omega)
  simpa using this
end Go.Proofs.YtgccjneplchojaaGreatDoor
namespace Go.Proofs.YtgccjneplchojaaGreatDoor
open Go.Eng Go.Plain
set_option autoImplicit false
set_option maxRecDepth 100000
variable {nat : ∀ [Deep], Nats}
theorem getD_get (l : List Nat) (n : Nat) (h : n < l.length) : l.getD n 0 = l[n] := by rw [List.getD_eq_getElem?_getD, List.getElem?_eq_getElem h]; rfl
end Go.Proofs.YtgccjneplchojaaGreatDoor
namespace Go.Proofs.YtgccjneplchojaaGreatDoor
open Go.Eng Go.Plain
set_option autoImplicit false
set_option maxRecDepth 100000
variable {nat : ∀ [Deep], Nats}
theorem has_lt {l : List Nat} {n : Nat} (h : has l n = true) : n < l.length := of_decide_eq_true h
theorem and_lt {a b : Bool} (h : (a && b) = true) : a = true ∧ b = true := Bool.and_eq_true_iff.1 h
end Go.Proofs.YtgccjneplchojaaGreatDoor
namespace Go.Proofs.YtgccjneplchojaaGreatDoor
open Go.Eng Go.Plain
set_option autoImplicit false
set_option maxRecDepth 100000
variable {nat : ∀ [Deep], Nats}
attribute [go_sem] opd_m1 opd_m1'
@[go_sem] theorem wantV_und' {w : Bool} : wantV und w = false := rfl
end Go.Proofs.YtgccjneplchojaaGreatDoor
namespace Go.Proofs.YtgccjneplchojaaGreatDoor
open Go.Eng Go.Plain
set_option autoImplicit false
set_option maxRecDepth 100000
variable {nat : ∀ [Deep], Nats}
@[go_sem] theorem good4 : goodEq Tryz.prog 4 false = true := by kernel_rfl
theorem eq4 {a b : Bool} : (eqB Tryz.prog 4).f (.bool a) (.bool b) = some (beqB a b) := by kernel_rfl
@[go_sem] theorem eq4tt : (eqB Tryz.prog 4).f (.bool true) (.bool true) = some true := eq4
@[go_sem] theorem eq4tf : (eqB Tryz.prog 4).f (.bool true) (.bool false) = some false := eq4
@[go_sem] theorem eq4ft : (eqB Tryz.prog 4).f (.bool false) (.bool true) = some false := eq4
@[go_sem] theorem eq4ff : (eqB Tryz.prog 4).f (.bool false) (.bool false) = some true := eq4
end Go.Proofs.YtgccjneplchojaaGreatDoor
namespace Go.Proofs.YtgccjneplchojaaGreatDoor
open Go.Eng Go.Plain
set_option autoImplicit false
set_option maxRecDepth 100000
variable {nat : ∀ [Deep], Nats}
theorem rdI_len9 {k : IntKind} {η : HN} {y : AV} {l : List Nat} (h : RdI k η y l) (hl : l.length ≤ 9223372036854775807) : ∀ e y' η', lenN (.slice e 1 y') y η' = .ok (.int .i64 l.length) η' := fun e y' η' => by
  have := RdR.len (e := e) (y' := y') (η' := η') h (by simpa using hl)
  simpa using this
theorem rdC_len9 {η : HN} {y : AV} {l : List Ins} (h : RdC η y l) (hl : l.length ≤ 9223372036854775807) : ∀ e y' η', lenN (.slice e 4 y') y η' = .ok (.int .i64 l.length) η' := fun e y' η' => by
  have := RdR.len (e := e) (y' := y') (η' := η') h (by simpa using hl)
  simpa using this
end Go.Proofs.YtgccjneplchojaaGreatDoor
namespace Go.Proofs.YtgccjneplchojaaGreatDoor
open Go.Eng Go.Plain
set_option autoImplicit false
set_option maxRecDepth 100000
variable {nat : ∀ [Deep], Nats}
theorem OwnA.keep {s b n : Nat} {η η' : HN} {x : AV} {l : List AV} (h : OwnA s b η x n l) (hn : η.nx ≤ η'.nx) (hk : ∀ c, b ≤ c → c < η.nx → η'.f c = η.f c) : OwnA s b η' x n l := by
  obtain ⟨q0, q | ⟨c, q1, q2, q3⟩⟩ := h
  · exact ⟨q0, .inl q⟩
  · exact ⟨q0, .inr ⟨c, q1, by omega, by rw [hk c q1 q2]; exact q3⟩⟩
end Go.Proofs.YtgccjneplchojaaGreatDoor
namespace Go.Proofs.YtgccjneplchojaaGreatDoor
open Go.Eng Go.Plain
set_option autoImplicit false
set_option maxRecDepth 100000
variable {nat : ∀ [Deep], Nats}
theorem quo_lt {a b : Nat} (ha : a < 18446744073709551616) : quoN .i64 a b < 18446744073709551616 := by
  have hr : ∀ z : Int, res .i64 z < 18446744073709551616 := fun z => @res_lt ⟨0, 0⟩ noEnv .i64 z
  unfold quoN
  cases nneg .i64 a
  · exact hr _
  · cases nneg .i64 b
    · exact hr _
    · exact Nat.lt_of_le_of_lt (Nat.div_le_self a b) ha
theorem rem_lt {a b : Nat} (ha : a < 18446744073709551616) : remN .i64 a b < 18446744073709551616 := by
  have hr : ∀ z : Int, res .i64 z < 18446744073709551616 := fun z => @res_lt ⟨0, 0⟩ noEnv .i64 z
  unfold remN
  cases nneg .i64 a
  · exact hr _
  · cases nneg .i64 b
    · exact hr _
    · exact Nat.lt_of_le_of_lt (Nat.mod_le a b) ha
theorem opF_lt {op a b : Nat} (ha : a < 18446744073709551616) (hb : b < 18446744073709551616) : opF op a b < 18446744073709551616 := by
  have t : ∀ c : Bool, truthN c < 18446744073709551616 := fun c => by cases c <;> decide
  unfold opF
  split
  · exact Nat.mod_lt _ (by omega)
  split
  · exact Nat.mod_lt _ (by omega)
  split
  · exact Nat.mod_lt _ (by omega)
  split
  · split
    · omega
    · exact quo_lt ha
  split
  · split
    · omega
    · exact rem_lt ha
  split
  · exact t _
  split
  · exact t _
  split
  · exact t _
  split
  · exact Nat.lt_of_le_of_lt Nat.and_le_left ha
  split
  · exact Nat.or_lt_two_pow (n := 64) ha hb
  · exact Nat.xor_lt_two_pow (n := 64) ha hb
end Go.Proofs.YtgccjneplchojaaGreatDoor
namespace Go.Proofs.YtgccjneplchojaaGreatDoor
open Go.Eng Go.Plain
set_option autoImplicit false
set_option maxRecDepth 100000
variable {nat : ∀ [Deep], Nats}
def i64s (l : List Nat) : List AV := l.map (.int .i64)
theorem i64s_len (l : List Nat) : (i64s l).length = l.length := List.length_map _
/-- a program whose slices lie in the blocks from lo on, ahead of hi -/
def Held (lo hi : Nat) (η : HN) (z : PV) (p : PD) : Prop := hi ≤ η.nx ∧ ∀ η' : HN, η.nx ≤ η'.nx → (∀ b, lo ≤ b → b < hi → η'.f b = η.f b) → IsP η' z p
theorem Held.isP {lo hi : Nat} {η : HN} {z : PV} {p : PD} (h : Held lo hi η z p) : IsP η z p := h.2 η (Nat.le_refl _) fun _ _ _ => rfl
theorem Held.of {lo hi : Nat} {η η' : HN} {z : PV} {p : PD} (h : Held lo hi η z p) (hn : η.nx ≤ η'.nx) (hk : ∀ b, lo ≤ b → b < hi → η'.f b = η.f b) : Held lo hi η' z p :=
  ⟨Nat.le_trans h.1 hn, fun η2 h1 h2 => h.2 η2 (Nat.le_trans hn h1) fun b a c => (h2 b a c).trans (hk b a c)⟩
/-- a slice of memories: empty, or the whole of a block of its own -/
def MemAt (mb : Nat) (η : HN) (y : AV) (ms : List Nat) : Prop := ((y = .nilslice ∨ ∃ b off cap, y = .slice b off 0 cap) ∧ ms = []) ∨ ∃ cap, y = .slice mb 0 ms.length cap ∧ η.f mb = .live false (i64s ms)
structure MachAt (lo hi : Nat) (η : HN) (mp mb : Nat) (z : PV) (p : PD) (ms : List Nat) (ticks : Nat) : Prop where
  held : Held lo hi η z p
  at_ : hi ≤ mp ∧ mp < η.nx
  mat : hi ≤ mb ∧ mb < η.nx ∧ mb ≠ mp
  cells : ∃ y, η.f mp = .live false [z.z1, z.z2, z.z3, z.z4, z.z5, z.z6, y, .int .i64 ticks] ∧ MemAt mb η y ms
  len : ms.length = p.mems.length
  lt : (∀ n ∈ ms, n < 18446744073709551616) ∧ ticks < 18446744073709551616
/-- a machine stands as it did -/
theorem MachAt.keep {lo hi mp mb ticks : Nat} {η η' : HN} {z : PV} {p : PD} {ms : List Nat} (M : MachAt lo hi η mp mb z p ms ticks) (hn : η.nx ≤ η'.nx) (hk : ∀ b, b < η.nx → (lo ≤ b ∧ b < hi ∨ b = mp ∨ b = mb) → η'.f b = η.f b) : MachAt lo hi η' mp mb z p ms ticks := by
  have h1 := M.held.1
  have h2 := M.at_
  have h3 := M.mat
  obtain ⟨y, c1, c2⟩ := M.cells
  refine ⟨M.held.of hn fun b a c => hk b (by omega) (.inl ⟨a, c⟩), ⟨h2.1, by omega⟩, ⟨h3.1, by omega, h3.2.2⟩, ⟨y, (hk mp h2.2 (.inr (.inl rfl))).trans c1, ?_⟩, M.len, M.lt⟩
  rcases c2 with c2 | ⟨cap, e1, e2⟩
  · exact .inl c2
  · exact .inr ⟨cap, e1, (hk mb h3.2.1 (.inr (.inr rfl))).trans e2⟩
end Go.Proofs.YtgccjneplchojaaGreatDoor
namespace Go.Proofs.YtgccjneplchojaaGreatDoor
open Go.Eng Go.Plain
set_option autoImplicit false
set_option maxRecDepth 100000
variable {nat : ∀ [Deep], Nats}
/-- a slice that is the whole of its block, or nil -/
def SlAt (η : HN) (T : Nat → Nat) (t : Nat) (y : AV) (l : List Nat) : Prop := ((y = .nilslice ∨ ∃ b off cap, y = .slice b off 0 cap) ∧ l = []) ∨ ∃ b cap, y = .slice b 0 l.length cap ∧ b < η.nx ∧ T b = t ∧ η.f b = .live false (i64s l)
theorem i64s_at {l : List Nat} {i : Nat} (h : i < l.length) : (i64s l)[i]? = some (.int .i64 (l.getD i 0)) := by
  unfold i64s
  rw [List.getElem?_map, List.getElem?_eq_getElem h, List.getD_eq_getElem?_getD, List.getElem?_eq_getElem h]; rfl
theorem i64s_set (l : List Nat) (i x : Nat) : (i64s l).set i (.int .i64 x) = i64s (l.set i x) := by unfold i64s; rw [List.map_set]
theorem SlAt.at {η : HN} {T : Nat → Nat} {t : Nat} {y : AV} {l : List Nat} (h : SlAt η T t y l) {i : Nat} (hi : i < l.length) : ∃ b cap, y = .slice b 0 l.length cap ∧ b < η.nx ∧ T b = t ∧ η.f b = .live false (i64s l) := by
  rcases h with ⟨_, rfl⟩ | h
  · simp at hi
  · exact h
theorem SlAt.of {η η' : HN} {T : Nat → Nat} {t : Nat} {y : AV} {l : List Nat} (h : SlAt η T t y l) (hn : η.nx ≤ η'.nx) (hk : ∀ b, b < η.nx → T b = t → η'.f b = η.f b) : SlAt η' T t y l := by
  rcases h with h | ⟨b, cap, h1, h2, h3, h4⟩
  · exact .inl h
  · exact .inr ⟨b, cap, h1, by omega, h3, (hk b h2 h3).trans h4⟩
/-- the step in the heap: slots (tag 1), outputs (2), memories (3); its own block (4) -/
structure StepAt (η : HN) (T : Nat → Nat) (sp : Nat) (yi : AV) (s : Sm) (ys yo ym : AV) : Prop where
  cells : η.f sp = .live false [ys, yo, ym, yi]
  tag : T sp = 4 ∧ sp < η.nx
  slots : SlAt η T 1 ys s.slots
  outs : SlAt η T 2 yo s.outs
  mems : SlAt η T 3 ym s.mems
end Go.Proofs.YtgccjneplchojaaGreatDoor
namespace Go.Proofs.YtgccjneplchojaaGreatDoor
open Go.Eng Go.Plain
set_option autoImplicit false
set_option maxRecDepth 100000
variable {nat : ∀ [Deep], Nats}
/-- what stays -/
structure KpS (T : Nat → Nat) (η η' : HN) : Prop where
  nx : η.nx ≤ η'.nx
  keep : ∀ b, b < η.nx → T b = 0 → η'.f b = η.f b
theorem StepAt.slot {η η1 : HN} {T : Nat → Nat} {sp : Nat} {yi ys yo ym : AV} {s : Sm} {b : Nat} {cap : Cp} (h : StepAt η T sp yi s ys yo ym) (E : ExtB η.nx η η1) (hy : ys = .slice b 0 s.slots.length cap) (hb : T b = 1) (hbn : b < η.nx) (a x : Nat) :
    StepAt (η1.put b (.live false (i64s (s.slots.set a x)))) T sp yi { s with slots := s.slots.set a x } ys yo ym ∧ KpS T η (η1.put b (.live false (i64s (s.slots.set a x)))) := by
  have hn := E.1
  have hne : ∀ c, c < η.nx → T c ≠ 1 → (η1.put b (.live false (i64s (s.slots.set a x)))).f c = η.f c := fun c hc ht => by
    show (if c = b then _ else _) = _
    rw [if_neg (fun e => ht (by rw [e]; exact hb))]
    exact E.2 c hc
  refine ⟨⟨(hne sp h.tag.2 (by have := h.tag.1; omega)).trans h.cells, ⟨h.tag.1, Nat.lt_of_lt_of_le h.tag.2 hn⟩, .inr ⟨b, cap, by rw [List.length_set]; exact hy, Nat.lt_of_lt_of_le hbn hn, hb, by show (if b = b then _ else _) = _; rw [if_pos rfl]⟩, h.outs.of hn fun c hc ht => hne c hc (by omega), h.mems.of hn fun c hc ht => hne c hc (by omega)⟩, ⟨hn, fun c hc ht => hne c hc (by omega)⟩⟩
theorem StepAt.out {η η1 : HN} {T : Nat → Nat} {sp : Nat} {yi ys yo ym : AV} {s : Sm} {b : Nat} {cap : Cp} (h : StepAt η T sp yi s ys yo ym) (E : ExtB η.nx η η1) (hy : yo = .slice b 0 s.outs.length cap) (hb : T b = 2) (hbn : b < η.nx) (a x : Nat) :
    StepAt (η1.put b (.live false (i64s (s.outs.set a x)))) T sp yi { s with outs := s.outs.set a x } ys yo ym ∧ KpS T η (η1.put b (.live false (i64s (s.outs.set a x)))) := by
  have hn := E.1
  have hne : ∀ c, c < η.nx → T c ≠ 2 → (η1.put b (.live false (i64s (s.outs.set a x)))).f c = η.f c := fun c hc ht => by
    show (if c = b then _ else _) = _
    rw [if_neg (fun e => ht (by rw [e]; exact hb))]
    exact E.2 c hc
  refine ⟨⟨(hne sp h.tag.2 (by have := h.tag.1; omega)).trans h.cells, ⟨h.tag.1, Nat.lt_of_lt_of_le h.tag.2 hn⟩, h.slots.of hn fun c hc ht => hne c hc (by omega), .inr ⟨b, cap, by rw [List.length_set]; exact hy, Nat.lt_of_lt_of_le hbn hn, hb, by show (if b = b then _ else _) = _; rw [if_pos rfl]⟩, h.mems.of hn fun c hc ht => hne c hc (by omega)⟩, ⟨hn, fun c hc ht => hne c hc (by omega)⟩⟩
theorem StepAt.mem {η η1 : HN} {T : Nat → Nat} {sp : Nat} {yi ys yo ym : AV} {s : Sm} {b : Nat} {cap : Cp} (h : StepAt η T sp yi s ys yo ym) (E : ExtB η.nx η η1) (hy : ym = .slice b 0 s.mems.length cap) (hb : T b = 3) (hbn : b < η.nx) (a x : Nat) :
    StepAt (η1.put b (.live false (i64s (s.mems.set a x)))) T sp yi { s with mems := s.mems.set a x } ys yo ym ∧ KpS T η (η1.put b (.live false (i64s (s.mems.set a x)))) := by
  have hn := E.1
  have hne : ∀ c, c < η.nx → T c ≠ 3 → (η1.put b (.live false (i64s (s.mems.set a x)))).f c = η.f c := fun c hc ht => by
    show (if c = b then _ else _) = _
    rw [if_neg (fun e => ht (by rw [e]; exact hb))]
    exact E.2 c hc
  refine ⟨⟨(hne sp h.tag.2 (by have := h.tag.1; omega)).trans h.cells, ⟨h.tag.1, Nat.lt_of_lt_of_le h.tag.2 hn⟩, h.slots.of hn fun c hc ht => hne c hc (by omega), h.outs.of hn fun c hc ht => hne c hc (by omega), .inr ⟨b, cap, by rw [List.length_set]; exact hy, Nat.lt_of_lt_of_le hbn hn, hb, by show (if b = b then _ else _) = _; rw [if_pos rfl]⟩⟩, ⟨hn, fun c hc ht => hne c hc (by omega)⟩⟩
theorem StepAt.same {η η1 : HN} {T : Nat → Nat} {sp : Nat} {yi ys yo ym : AV} {s : Sm} (h : StepAt η T sp yi s ys yo ym) (E : ExtB η.nx η η1) : StepAt η1 T sp yi s ys yo ym ∧ KpS T η η1 :=
  ⟨⟨(E.2 _ h.tag.2).trans h.cells, ⟨h.tag.1, Nat.lt_of_lt_of_le h.tag.2 E.1⟩, h.slots.of E.1 fun c hc _ => E.2 c hc, h.outs.of E.1 fun c hc _ => E.2 c hc, h.mems.of E.1 fun c hc _ => E.2 c hc⟩, ⟨E.1, fun c hc _ => E.2 c hc⟩⟩
theorem ins_facts {η : HN} {z : PV} {p : PD} {s : Sm} {pc : Nat} {i : Ins} (hp : IsP η z p) (hf : Fine p) (hpc : pc < p.code.length) (hi0 : p.code[pc] = i) (hlt : ∀ n ∈ s.slots, n < 18446744073709551616) :
    ∃ bc offc capc roc rowc, z.z6 = .slice bc offc p.code.length capc ∧ η.f bc = .live roc rowc ∧ bc < η.nx ∧ offc + pc * 4 + 4 ≤ rowc.length ∧ (rowc.drop (offc + pc * 4)).take 4 = i.cells ∧ (∀ i, s.slots.getD i 0 < 18446744073709551616) ∧ (i64s s.slots).length = s.slots.length ∧ (i64s s.outs).length = s.outs.length ∧ (i64s s.mems).length = s.mems.length ∧
      p.ins.length ≤ 1099511627776 ∧ p.outs.length ≤ 1099511627776 ∧ p.slots.length ≤ 1099511627776 ∧ p.mems.length ≤ 1099511627776 ∧ p.consts.length ≤ 1099511627776 ∧ p.code.length ≤ 1099511627776 := by
  obtain ⟨bc, offc, capc, roc, rowc, z6e, hbc, hbcn, hlc, hrc⟩ := RdR.at (i := pc) hp.code (by simpa using hpc)
  simp only [List.length_map, List.getElem_map, hi0] at z6e hrc
  refine ⟨bc, offc, capc, roc, rowc, z6e, hbc, hbcn, hlc, hrc, fun i => ?_, i64s_len _, i64s_len _, i64s_len _, hf.ins.1, hf.outs.1, hf.slots.1, hf.mems.1, hf.consts.1, hf.code.1⟩
  rw [List.getD_eq_getElem?_getD]
  cases hx : s.slots[i]? with
  | none => show 0 < _; omega
  | some x => exact hlt x (List.mem_of_getElem? hx)
end Go.Proofs.YtgccjneplchojaaGreatDoor
namespace Go.Proofs.YtgccjneplchojaaGreatDoor
open Go.Eng Go.Plain
set_option autoImplicit false
set_option maxRecDepth 100000
variable {nat : ∀ [Deep], Nats}
theorem ops_there {p : PD} {pc op a b c : Nat} (hop : 8 ≤ op ∧ op ≤ 18) (ht : thereF p pc ⟨op, a, b, c⟩ = true) : (has p.slots a && (has p.slots b && has p.slots c)) = true := by
  unfold thereF at ht
  dsimp only at ht
  rw [if_neg (by omega), if_neg (by omega), if_neg (by omega), if_neg (by omega), if_neg (by omega), if_neg (by omega), if_neg (by omega), if_neg (by omega)] at ht
  exact (and_lt ht).2
theorem ops_do {p : PD} {inn : List Nat} {s : Sm} {op a b c : Nat} (hop : 8 ≤ op ∧ op ≤ 18) : doI p inn ⟨op, a, b, c⟩ s = { s with slots := s.slots.set a (opF op (s.slots.getD b 0) (s.slots.getD c 0)) } := by
  unfold doI
  dsimp only
  rw [if_neg (by omega), if_neg (by omega), if_neg (by omega), if_neg (by omega), if_neg (by omega), if_neg (by omega), if_neg (by omega), if_neg (by omega), if_neg (by omega)]
theorem ops_next {s : Sm} {pc op a b c : Nat} (hop : 8 ≤ op ∧ op ≤ 18) : nextI ⟨op, a, b, c⟩ pc s = pc + 1 := by
  unfold nextI
  dsimp only
  rw [if_neg (by omega), if_neg (by omega)]
end Go.Proofs.YtgccjneplchojaaGreatDoor
namespace Go.Proofs.YtgccjneplchojaaGreatDoor
open Go.Eng Go.Plain
set_option autoImplicit false
/-- lists of the right lengths, of residues -/
structure SmOk (p : PD) (inn : List Nat) (s : Sm) : Prop where
  slots : s.slots.length = p.slots.length ∧ ∀ n ∈ s.slots, n < 18446744073709551616
  outs : s.outs.length = p.outs.length ∧ ∀ n ∈ s.outs, n < 18446744073709551616
  mems : s.mems.length = p.mems.length ∧ ∀ n ∈ s.mems, n < 18446744073709551616
  inn : inn.length = p.ins.length ∧ ∀ n ∈ inn, n < 18446744073709551616
theorem set_ok {l : List Nat} {n i x : Nat} (h : l.length = n ∧ ∀ y ∈ l, y < 18446744073709551616) (hx : x < 18446744073709551616) : (l.set i x).length = n ∧ ∀ y ∈ l.set i x, y < 18446744073709551616 :=
  ⟨by rw [List.length_set]; exact h.1, fun y hy => by rcases List.mem_or_eq_of_mem_set hy with h1 | rfl; exact h.2 y h1; exact hx⟩
theorem getD_ok {l : List Nat} (h : ∀ y ∈ l, y < 18446744073709551616) (i : Nat) : l.getD i 0 < 18446744073709551616 := by
  rw [List.getD_eq_getElem?_getD]
  cases hx : l[i]? with
  | none => show 0 < _; omega
  | some x => exact h x (List.mem_of_getElem? hx)
theorem doI_ok {p : PD} {inn : List Nat} {i : Ins} {s : Sm} (hf : Fine p) (h : SmOk p inn s) : SmOk p inn (doI p inn i s) := by
  have g := getD_ok h.slots.2
  unfold doI
  split
  · exact ⟨set_ok h.slots (getD_ok hf.consts.2 _), h.outs, h.mems, h.inn⟩
  split
  · exact ⟨set_ok h.slots (g _), h.outs, h.mems, h.inn⟩
  split
  · exact ⟨set_ok h.slots (getD_ok h.mems.2 _), h.outs, h.mems, h.inn⟩
  split
  · exact ⟨h.slots, h.outs, set_ok h.mems (g _), h.inn⟩
  split
  · exact ⟨set_ok h.slots (getD_ok h.inn.2 _), h.outs, h.mems, h.inn⟩
  split
  · exact ⟨h.slots, set_ok h.outs (g _), h.mems, h.inn⟩
  split
  · exact ⟨set_ok h.slots (Nat.mod_lt _ (by omega)), h.outs, h.mems, h.inn⟩
  split
  · exact ⟨set_ok h.slots (Nat.mod_lt _ (by omega)), h.outs, h.mems, h.inn⟩
  split
  · exact h
  · exact ⟨set_ok h.slots (opF_lt (g _) (g _)), h.outs, h.mems, h.inn⟩
theorem nextI_gt {p : PD} {pc : Nat} {i : Ins} {s : Sm} (h : thereF p pc i = true) (hpc : pc < p.code.length) : pc < nextI i pc s ∧ nextI i pc s ≤ p.code.length := by
  obtain ⟨_, _, _, _, h5⟩ := there_facts h
  unfold nextI
  split
  · have := h5 (by omega)
    split <;> omega
  · split
    · have := h5 (by omega); omega
    · omega
end Go.Proofs.YtgccjneplchojaaGreatDoor
namespace Go.Proofs.YtgccjneplchojaaGreatDoor
open Go.Eng Go.Plain
set_option autoImplicit false
theorem check_parts {p : PD} (h : (checkF p).2 = 0) : partsF p = true := by
  unfold checkF at h
  cases hp : partsF p with
  | true => rfl
  | false => rw [hp] at h; exact absurd h (show ¬ (1 = 0) by decide)
theorem check_first {p : PD} (h : (checkF p).2 = 0) : firstF (thereF p) p.code 0 = none := by
  have hp := check_parts h
  unfold checkF at h
  rw [hp, if_pos rfl] at h
  cases hf : firstF (thereF p) p.code 0 with
  | none => rfl
  | some x => rw [hf] at h; exact absurd h (show ¬ (2 = 0) by decide)
theorem check_there {p : PD} (h : (checkF p).2 = 0) (pc : Nat) (hpc : pc < p.code.length) : thereF p pc p.code[pc] = true := by
  have := first_none (check_first h) pc hpc
  rwa [Nat.zero_add] at this
theorem runF_end {p : PD} {inn : List Nat} {pc : Nat} {s : Sm} (h : p.code.length ≤ pc) : ∀ f, runF p inn f pc s = s
  | 0 => rfl
  | f + 1 => by rw [runF, List.getElem?_eq_none h]
theorem runF_any {p : PD} (hc : (checkF p).2 = 0) {inn : List Nat} : ∀ f g pc s, p.code.length - pc ≤ f → p.code.length - pc ≤ g → runF p inn f pc s = runF p inn g pc s
  | 0, g, pc, s, h1, _ => by rw [runF_end (by omega) g]; rfl
  | f + 1, 0, pc, s, _, h2 => by rw [runF_end (by omega) (f + 1)]; rfl
  | f + 1, g + 1, pc, s, h1, h2 => by
    by_cases hpc : pc < p.code.length
    · rw [runF, runF, List.getElem?_eq_getElem hpc]
      have := nextI_gt (s := s) (check_there hc pc hpc) hpc
      exact runF_any hc f g _ _ (by omega) (by omega)
    · rw [runF_end (by omega), runF_end (by omega)]
/-- what is left to do at pc -/
noncomputable def goM (p : PD) (inn : List Nat) (pc : Nat) (s : Sm) : Sm := runF p inn (p.code.length - pc) pc s
theorem goM_end {p : PD} {inn : List Nat} {pc : Nat} {s : Sm} (h : p.code.length ≤ pc) : goM p inn pc s = s := runF_end h _
theorem goM_next {p : PD} (hc : (checkF p).2 = 0) {inn : List Nat} {pc : Nat} {s : Sm} (hpc : pc < p.code.length) : goM p inn (nextI p.code[pc] pc s) (doI p inn p.code[pc] s) = goM p inn pc s := by
  unfold goM
  have hn := nextI_gt (s := s) (check_there hc pc hpc) hpc
  obtain ⟨k, hk⟩ : ∃ k, p.code.length - pc = k + 1 := ⟨p.code.length - pc - 1, by omega⟩
  rw [hk, runF, List.getElem?_eq_getElem hpc]
  exact runF_any hc _ _ _ _ (Nat.le_refl _) (by omega)
def zeroS (p : PD) (ms : List Nat) : Sm := ⟨List.replicate p.slots.length 0, List.replicate p.outs.length 0, ms⟩
theorem goM_0 {p : PD} {inn ms : List Nat} : goM p inn 0 (zeroS p ms) = stepM p ms inn := rfl
theorem zero_ok {p : PD} {inn ms : List Nat} (hm : ms.length = p.mems.length ∧ ∀ n ∈ ms, n < 18446744073709551616) (hi : inn.length = p.ins.length ∧ ∀ n ∈ inn, n < 18446744073709551616) : SmOk p inn (zeroS p ms) :=
  ⟨⟨List.length_replicate, fun n hn => by have := (List.mem_replicate.1 hn).2; omega⟩, ⟨List.length_replicate, fun n hn => by have := (List.mem_replicate.1 hn).2; omega⟩, hm, hi⟩
end Go.Proofs.YtgccjneplchojaaGreatDoor
namespace Go.Eng
set_option autoImplicit false
/-- a slice of bytes with room to grow where it lies -/
def OwnK (base : Nat) (η : HN) (x : AV) (n c : Nat) (l : List AV) : Prop := ∃ b rest, x = .slice b 0 n (.kn c) ∧ base ≤ b ∧ b < η.nx ∧ l.length = n ∧ n + rest.length = c ∧ η.f b = .live false (l ++ rest)
theorem OwnK.ext {base n c : Nat} {η η' : HN} {x : AV} {l : List AV} (h : OwnK base η x n c l) (e : ExtB η.nx η η') : OwnK base η' x n c l := by
  obtain ⟨b, rest, h0, hb, h1, h2, h3, h4⟩ := h
  exact ⟨b, rest, h0, hb, by have := e.1; omega, h2, h3, (e.2 b h1).trans h4⟩
end Go.Eng
namespace Go.Proofs.YtgccjneplchojaaGreatDoor
open Go.Eng Go.Plain
set_option autoImplicit false
set_option maxRecDepth 100000
variable {nat : ∀ [Deep], Nats}
end Go.Proofs.YtgccjneplchojaaGreatDoor
namespace Go.Proofs.YtgccjneplchojaaGreatDoor
open Go.Eng Go.Plain
set_option autoImplicit false
set_option maxRecDepth 100000
variable {nat : ∀ [Deep], Nats}
/-- a slice that stands while the machine steps -/
def Stays (η : HN) (mp mb : Nat) (y : AV) (l : List Nat) : Prop := ∀ η' : HN, η.nx ≤ η'.nx → (∀ b, b < η.nx → b ≠ mp → b ≠ mb → η'.f b = η.f b) → RdI .i64 η' y l
/-- a row that was made since -/
def OutAt (base : Nat) (η : HN) (y : AV) (l : List Nat) : Prop := ∃ b, base ≤ b ∧ b < η.nx ∧ MemAt b η y l
theorem OutAt.keep {base : Nat} {η η' : HN} {y : AV} {l : List Nat} (h : OutAt base η y l) (hn : η.nx ≤ η'.nx) (hk : ∀ b, base ≤ b → b < η.nx → η'.f b = η.f b) : OutAt base η' y l := by
  obtain ⟨b, h1, h2, h3⟩ := h
  refine ⟨b, h1, by omega, ?_⟩
  rcases h3 with h3 | ⟨cap, h3, h4⟩
  · exact .inl h3
  · exact .inr ⟨cap, h3, (hk b h1 h2).trans h4⟩
theorem KpS.trans {T : Nat → Nat} {η η' η'' : HN} (h : KpS T η η') (k : KpS T η' η'') : KpS T η η'' := ⟨Nat.le_trans h.nx k.nx, fun b hb ht => (k.keep b (Nat.lt_of_lt_of_le hb h.nx) ht).trans (h.keep b hb ht)⟩
end Go.Proofs.YtgccjneplchojaaGreatDoor
namespace Go.Proofs.YtgccjneplchojaaGreatDoor
open Go.Eng Go.Plain
set_option autoImplicit false
set_option maxRecDepth 100000
variable {nat : ∀ [Deep], Nats}
@[go_sem] theorem opd_o0 {φ : FN} : opd φ (.const (.string { data := #[110, 111, 116] })) = .str 3 7630702 := rfl
@[go_sem] theorem opd_o1 {φ : FN} : opd φ (.const (.string { data := #[110, 101, 103] })) = .str 3 6776174 := rfl
@[go_sem] theorem opd_o6 {φ : FN} : opd φ (.const (.string { data := #[109, 111, 100] })) = .str 3 6582125 := rfl
@[go_sem] theorem opd_o10 {φ : FN} : opd φ (.const (.string { data := #[97, 110, 100] })) = .str 3 6581857 := rfl
@[go_sem] theorem opd_o11 {φ : FN} : opd φ (.const (.string { data := #[111, 114] })) = .str 2 29295 := rfl
@[go_sem] theorem opd_o12 {φ : FN} : opd φ (.const (.string { data := #[120, 111, 114] })) = .str 3 7499640 := rfl
@[go_sem] theorem opd_o2 {φ : FN} : opd φ (.const (.string { data := #[43] })) = .str 1 43 := rfl
@[go_sem] theorem opd_o3 {φ : FN} : opd φ (.const (.string { data := #[45] })) = .str 1 45 := rfl
@[go_sem] theorem opd_o4 {φ : FN} : opd φ (.const (.string { data := #[42] })) = .str 1 42 := rfl
@[go_sem] theorem opd_o5 {φ : FN} : opd φ (.const (.string { data := #[47] })) = .str 1 47 := rfl
@[go_sem] theorem opd_o7 {φ : FN} : opd φ (.const (.string { data := #[61] })) = .str 1 61 := rfl
@[go_sem] theorem opd_o8 {φ : FN} : opd φ (.const (.string { data := #[60] })) = .str 1 60 := rfl
@[go_sem] theorem opd_o9 {φ : FN} : opd φ (.const (.string { data := #[60, 61] })) = .str 2 15676 := rfl
@[go_sem] theorem opd_o13 {φ : FN} : opd φ (.const (.string { data := #[105, 102] })) = .str 2 26217 := rfl
@[go_sem] theorem opd_o14 {φ : FN} : opd φ (.const (.string { data := #[60, 62] })) = .str 2 15932 := rfl
@[go_sem] theorem opd_o15 {φ : FN} : opd φ (.const (.string { data := #[62] })) = .str 1 62 := rfl
@[go_sem] theorem opd_o16 {φ : FN} : opd φ (.const (.string { data := #[62, 61] })) = .str 2 15678 := rfl
/-- the operators' names -/
def opStr : Nat → AV
  | 6 => .str 3 7630702
  | 7 => .str 3 6776174
  | 8 => .str 1 43
  | 9 => .str 1 45
  | 10 => .str 1 42
  | 11 => .str 1 47
  | 12 => .str 3 6582125
  | 13 => .str 1 61
  | 14 => .str 1 60
  | 15 => .str 2 15676
  | 16 => .str 3 6581857
  | 17 => .str 2 29295
  | 18 => .str 3 7499640
  | _ => .str 0 0
theorem strEq_at (n v m w : Nat) : strEq n v m w = (decide (n = m) && decide (v = w)) := by
  have e : ∀ a b : Nat, Nat.beq a b = decide (a = b) := fun a b => by rw [Bool.eq_iff_iff, decide_eq_true_eq]; exact beq_true
  unfold strEq
  rw [e n m, e v w]
  cases decide (n = m) <;> rfl
theorem truth72_call (U : Usual nat) (η : HN) (b : Bool) : CallN Tryz.prog nat 84 [.bool b] η (.int .i64 (truthN b)) η := by
  have : ∃ v η', CallN Tryz.prog nat 84 [.bool b] η v η' ∧ v = .int .i64 (truthN b) ∧ η' = η := by
    refine call_of (PT := pl84) Tryz.func84 rfl (U 84 (by decide)) ok84 rfl ?_
    cases b
    · simp -implicitDefEqProofs (disch := omega) only [go_sem]; first | rfl | exact ⟨rfl, rfl⟩
    · simp -implicitDefEqProofs (disch := omega) only [go_sem]; first | rfl | exact ⟨rfl, rfl⟩
  obtain ⟨v, η', k, rfl, rfl⟩ := this
  exact k
theorem refop_6 (U : Usual nat) {η : HN} {y : AV} {a : Nat} {l : List Nat} (hy : RdI .i64 η y (a :: l)) : ∃ v η', CallN Tryz.prog nat 47 [opStr 6, y] η v η' ∧ v = .int .i64 ((1 + (18446744073709551616 - a)) % 18446744073709551616) ∧ η' = η := by
  refine call_of (PT := pl47) Tryz.func47 rfl (U 47 (by decide)) ok47 rfl ?_
  obtain ⟨b0, off, cap, ro, row, ye, hb, hbn, r0⟩ := hy.at (i := 0) (by simp)
  rw [show opStr 6 = .str 3 7630702 from rfl, ye]
  rw [List.getElem_cons_zero, Nat.add_zero] at r0
  rw [List.length_cons]
  simp -implicitDefEqProofs (disch := omega) only [go_sem, hb, r0, strEq_at]
theorem refop_7 (U : Usual nat) {η : HN} {y : AV} {a : Nat} {l : List Nat} (hy : RdI .i64 η y (a :: l)) : ∃ v η', CallN Tryz.prog nat 47 [opStr 7, y] η v η' ∧ v = .int .i64 ((18446744073709551616 - a) % 18446744073709551616) ∧ η' = η := by
  refine call_of (PT := pl47) Tryz.func47 rfl (U 47 (by decide)) ok47 rfl ?_
  obtain ⟨b0, off, cap, ro, row, ye, hb, hbn, r0⟩ := hy.at (i := 0) (by simp)
  rw [show opStr 7 = .str 3 6776174 from rfl, ye]
  rw [List.getElem_cons_zero, Nat.add_zero] at r0
  rw [List.length_cons]
  simp -implicitDefEqProofs (disch := omega) only [go_sem, hb, r0, strEq_at]
set_option maxHeartbeats 1000000 in
theorem refop_8 (U : Usual nat) {η : HN} {y : AV} {a b : Nat} (ha : a < 18446744073709551616) (hbl : b < 18446744073709551616) (hy : RdI .i64 η y [a, b]) : ∃ v η', CallN Tryz.prog nat 47 [opStr 8, y] η v η' ∧ v = .int .i64 (refF 8 a b) ∧ η' = η := by
  refine call_of (PT := pl47) Tryz.func47 rfl (U 47 (by decide)) ok47 rfl ?_
  obtain ⟨b0, off, cap, ro, row, ye, hb, hbn, r0⟩ := hy.at (i := 0) (by simp)
  obtain ⟨b1, off1, cap1, ro1, row1, ye1, hb1, hbn1, r1⟩ := hy.at (i := 1) (by simp)
  rw [ye] at ye1
  cases ye1
  rw [hb] at hb1
  cases hb1
  rw [show opStr 8 = .str 1 43 from rfl, ye]
  rw [List.getElem_cons_zero, Nat.add_zero] at r0
  rw [List.getElem_cons_succ, List.getElem_cons_zero] at r1
  rw [show [a, b].length = 2 from rfl]
  simp -implicitDefEqProofs (disch := omega) only [go_sem, hb, r0, r1, strEq_at]
  first | rfl | exact ⟨rfl, rfl⟩
set_option maxHeartbeats 1000000 in
theorem refop_9 (U : Usual nat) {η : HN} {y : AV} {a b : Nat} (ha : a < 18446744073709551616) (hbl : b < 18446744073709551616) (hy : RdI .i64 η y [a, b]) : ∃ v η', CallN Tryz.prog nat 47 [opStr 9, y] η v η' ∧ v = .int .i64 (refF 9 a b) ∧ η' = η := by
  refine call_of (PT := pl47) Tryz.func47 rfl (U 47 (by decide)) ok47 rfl ?_
  obtain ⟨b0, off, cap, ro, row, ye, hb, hbn, r0⟩ := hy.at (i := 0) (by simp)
  obtain ⟨b1, off1, cap1, ro1, row1, ye1, hb1, hbn1, r1⟩ := hy.at (i := 1) (by simp)
  rw [ye] at ye1
  cases ye1
  rw [hb] at hb1
  cases hb1
  rw [show opStr 9 = .str 1 45 from rfl, ye]
  rw [List.getElem_cons_zero, Nat.add_zero] at r0
  rw [List.getElem_cons_succ, List.getElem_cons_zero] at r1
  rw [show [a, b].length = 2 from rfl]
  simp -implicitDefEqProofs (disch := omega) only [go_sem, hb, r0, r1, strEq_at]
  first | rfl | exact ⟨rfl, rfl⟩
set_option maxHeartbeats 1000000 in
theorem refop_10 (U : Usual nat) {η : HN} {y : AV} {a b : Nat} (ha : a < 18446744073709551616) (hbl : b < 18446744073709551616) (hy : RdI .i64 η y [a, b]) : ∃ v η', CallN Tryz.prog nat 47 [opStr 10, y] η v η' ∧ v = .int .i64 (refF 10 a b) ∧ η' = η := by
  refine call_of (PT := pl47) Tryz.func47 rfl (U 47 (by decide)) ok47 rfl ?_
  obtain ⟨b0, off, cap, ro, row, ye, hb, hbn, r0⟩ := hy.at (i := 0) (by simp)
  obtain ⟨b1, off1, cap1, ro1, row1, ye1, hb1, hbn1, r1⟩ := hy.at (i := 1) (by simp)
  rw [ye] at ye1
  cases ye1
  rw [hb] at hb1
  cases hb1
  rw [show opStr 10 = .str 1 42 from rfl, ye]
  rw [List.getElem_cons_zero, Nat.add_zero] at r0
  rw [List.getElem_cons_succ, List.getElem_cons_zero] at r1
  rw [show [a, b].length = 2 from rfl]
  simp -implicitDefEqProofs (disch := omega) only [go_sem, hb, r0, r1, strEq_at]
  first | rfl | exact ⟨rfl, rfl⟩
set_option maxHeartbeats 1000000 in
theorem refop_11 (U : Usual nat) {η : HN} {y : AV} {a b : Nat} (ha : a < 18446744073709551616) (hbl : b < 18446744073709551616) (hy : RdI .i64 η y [a, b]) : ∃ v η', CallN Tryz.prog nat 47 [opStr 11, y] η v η' ∧ v = .int .i64 (refF 11 a b) ∧ η' = η := by
  refine call_of (PT := pl47) Tryz.func47 rfl (U 47 (by decide)) ok47 rfl ?_
  obtain ⟨b0, off, cap, ro, row, ye, hb, hbn, r0⟩ := hy.at (i := 0) (by simp)
  obtain ⟨b1, off1, cap1, ro1, row1, ye1, hb1, hbn1, r1⟩ := hy.at (i := 1) (by simp)
  rw [ye] at ye1
  cases ye1
  rw [hb] at hb1
  cases hb1
  rw [show opStr 11 = .str 1 47 from rfl, ye]
  rw [List.getElem_cons_zero, Nat.add_zero] at r0
  rw [List.getElem_cons_succ, List.getElem_cons_zero] at r1
  rw [show [a, b].length = 2 from rfl]
  by_cases h0 : b = 0
  · subst h0
    simp -implicitDefEqProofs (disch := omega) only [go_sem, hb, r0, r1, strEq_at]
    first | rfl | exact ⟨rfl, rfl⟩
  by_cases h1 : b = 18446744073709551615
  · subst h1
    simp -implicitDefEqProofs (disch := omega) only [go_sem, hb, r0, r1, strEq_at]
    first | rfl | exact ⟨rfl, rfl⟩
  · have e : refF 11 a b = quoN .i64 a b := by unfold refF; rw [if_neg (by decide), if_neg (by decide), if_neg (by decide), if_pos rfl, if_neg h0, if_neg h1]
    rw [e]
    simp -implicitDefEqProofs (disch := omega) only [go_sem, hb, r0, r1, strEq_at, and_true]
set_option maxHeartbeats 1000000 in
theorem refop_12 (U : Usual nat) {η : HN} {y : AV} {a b : Nat} (ha : a < 18446744073709551616) (hbl : b < 18446744073709551616) (hy : RdI .i64 η y [a, b]) : ∃ v η', CallN Tryz.prog nat 47 [opStr 12, y] η v η' ∧ v = .int .i64 (refF 12 a b) ∧ η' = η := by
  refine call_of (PT := pl47) Tryz.func47 rfl (U 47 (by decide)) ok47 rfl ?_
  obtain ⟨b0, off, cap, ro, row, ye, hb, hbn, r0⟩ := hy.at (i := 0) (by simp)
  obtain ⟨b1, off1, cap1, ro1, row1, ye1, hb1, hbn1, r1⟩ := hy.at (i := 1) (by simp)
  rw [ye] at ye1
  cases ye1
  rw [hb] at hb1
  cases hb1
  rw [show opStr 12 = .str 3 6582125 from rfl, ye]
  rw [List.getElem_cons_zero, Nat.add_zero] at r0
  rw [List.getElem_cons_succ, List.getElem_cons_zero] at r1
  rw [show [a, b].length = 2 from rfl]
  by_cases h0 : b = 0
  · subst h0
    simp -implicitDefEqProofs (disch := omega) only [go_sem, hb, r0, r1, strEq_at]
    first | rfl | exact ⟨rfl, rfl⟩
  by_cases h1 : b = 18446744073709551615
  · subst h1
    simp -implicitDefEqProofs (disch := omega) only [go_sem, hb, r0, r1, strEq_at]
    first | rfl | exact ⟨rfl, rfl⟩
  · have e : refF 12 a b = remN .i64 a b := by unfold refF; rw [if_neg (by decide), if_neg (by decide), if_neg (by decide), if_neg (by decide), if_pos rfl, if_neg h0, if_neg h1]
    rw [e]
    simp -implicitDefEqProofs (disch := omega) only [go_sem, hb, r0, r1, strEq_at, and_true]
set_option maxHeartbeats 1000000 in
theorem refop_13 (U : Usual nat) {η : HN} {y : AV} {a b : Nat} (ha : a < 18446744073709551616) (hbl : b < 18446744073709551616) (hy : RdI .i64 η y [a, b]) : ∃ v η', CallN Tryz.prog nat 47 [opStr 13, y] η v η' ∧ v = .int .i64 (refF 13 a b) ∧ η' = η := by
  refine call_of (PT := pl47) Tryz.func47 rfl (U 47 (by decide)) ok47 rfl ?_
  obtain ⟨b0, off, cap, ro, row, ye, hb, hbn, r0⟩ := hy.at (i := 0) (by simp)
  obtain ⟨b1, off1, cap1, ro1, row1, ye1, hb1, hbn1, r1⟩ := hy.at (i := 1) (by simp)
  rw [ye] at ye1
  cases ye1
  rw [hb] at hb1
  cases hb1
  rw [show opStr 13 = .str 1 61 from rfl, ye]
  rw [List.getElem_cons_zero, Nat.add_zero] at r0
  rw [List.getElem_cons_succ, List.getElem_cons_zero] at r1
  rw [show [a, b].length = 2 from rfl]
  simp -implicitDefEqProofs (disch := omega) only [go_sem, hb, r0, r1, strEq_at]
  refine thenN_call ⟨_, _, truth72_call U _ _, ?_⟩
  simp -implicitDefEqProofs (disch := omega) only [go_sem]; first | rfl | exact ⟨rfl, rfl⟩
set_option maxHeartbeats 1000000 in
theorem refop_14 (U : Usual nat) {η : HN} {y : AV} {a b : Nat} (ha : a < 18446744073709551616) (hbl : b < 18446744073709551616) (hy : RdI .i64 η y [a, b]) : ∃ v η', CallN Tryz.prog nat 47 [opStr 14, y] η v η' ∧ v = .int .i64 (refF 14 a b) ∧ η' = η := by
  refine call_of (PT := pl47) Tryz.func47 rfl (U 47 (by decide)) ok47 rfl ?_
  obtain ⟨b0, off, cap, ro, row, ye, hb, hbn, r0⟩ := hy.at (i := 0) (by simp)
  obtain ⟨b1, off1, cap1, ro1, row1, ye1, hb1, hbn1, r1⟩ := hy.at (i := 1) (by simp)
  rw [ye] at ye1
  cases ye1
  rw [hb] at hb1
  cases hb1
  rw [show opStr 14 = .str 1 60 from rfl, ye]
  rw [List.getElem_cons_zero, Nat.add_zero] at r0
  rw [List.getElem_cons_succ, List.getElem_cons_zero] at r1
  rw [show [a, b].length = 2 from rfl]
  simp -implicitDefEqProofs (disch := omega) only [go_sem, hb, r0, r1, strEq_at]
  refine thenN_call ⟨_, _, truth72_call U _ _, ?_⟩
  simp -implicitDefEqProofs (disch := omega) only [go_sem]; first | rfl | exact ⟨rfl, rfl⟩
set_option maxHeartbeats 1000000 in
theorem refop_15 (U : Usual nat) {η : HN} {y : AV} {a b : Nat} (ha : a < 18446744073709551616) (hbl : b < 18446744073709551616) (hy : RdI .i64 η y [a, b]) : ∃ v η', CallN Tryz.prog nat 47 [opStr 15, y] η v η' ∧ v = .int .i64 (refF 15 a b) ∧ η' = η := by
  refine call_of (PT := pl47) Tryz.func47 rfl (U 47 (by decide)) ok47 rfl ?_
  obtain ⟨b0, off, cap, ro, row, ye, hb, hbn, r0⟩ := hy.at (i := 0) (by simp)
  obtain ⟨b1, off1, cap1, ro1, row1, ye1, hb1, hbn1, r1⟩ := hy.at (i := 1) (by simp)
  rw [ye] at ye1
  cases ye1
  rw [hb] at hb1
  cases hb1
  rw [show opStr 15 = .str 2 15676 from rfl, ye]
  rw [List.getElem_cons_zero, Nat.add_zero] at r0
  rw [List.getElem_cons_succ, List.getElem_cons_zero] at r1
  rw [show [a, b].length = 2 from rfl]
  simp -implicitDefEqProofs (disch := omega) only [go_sem, hb, r0, r1, strEq_at]
  refine thenN_call ⟨_, _, truth72_call U _ _, ?_⟩
  simp -implicitDefEqProofs (disch := omega) only [go_sem]; first | rfl | exact ⟨rfl, rfl⟩
set_option maxHeartbeats 1000000 in
theorem refop_16 (U : Usual nat) {η : HN} {y : AV} {a b : Nat} (ha : a < 18446744073709551616) (hbl : b < 18446744073709551616) (hy : RdI .i64 η y [a, b]) : ∃ v η', CallN Tryz.prog nat 47 [opStr 16, y] η v η' ∧ v = .int .i64 (refF 16 a b) ∧ η' = η := by
  refine call_of (PT := pl47) Tryz.func47 rfl (U 47 (by decide)) ok47 rfl ?_
  obtain ⟨b0, off, cap, ro, row, ye, hb, hbn, r0⟩ := hy.at (i := 0) (by simp)
  obtain ⟨b1, off1, cap1, ro1, row1, ye1, hb1, hbn1, r1⟩ := hy.at (i := 1) (by simp)
  rw [ye] at ye1
  cases ye1
  rw [hb] at hb1
  cases hb1
  rw [show opStr 16 = .str 3 6581857 from rfl, ye]
  rw [List.getElem_cons_zero, Nat.add_zero] at r0
  rw [List.getElem_cons_succ, List.getElem_cons_zero] at r1
  rw [show [a, b].length = 2 from rfl]
  by_cases h0 : a = 1
  · subst h0
    simp -implicitDefEqProofs (disch := omega) only [go_sem, hb, r0, r1, strEq_at]
    refine thenN_call ⟨_, _, truth72_call U _ _, ?_⟩
    simp -implicitDefEqProofs (disch := omega) only [go_sem]; first | rfl | exact ⟨rfl, rfl⟩
  · have e : refF 16 a b = truthN false := by unfold refF; rw [if_neg (by decide), if_neg (by decide), if_neg (by decide), if_neg (by decide), if_neg (by decide), if_neg (by decide), if_neg (by decide), if_neg (by decide), if_pos rfl, decide_eq_false h0]; rfl
    rw [e]
    simp -implicitDefEqProofs (disch := omega) only [go_sem, hb, r0, r1, strEq_at]
    refine thenN_call ⟨_, _, truth72_call U _ _, ?_⟩
    simp -implicitDefEqProofs (disch := omega) only [go_sem]
set_option maxHeartbeats 1000000 in
theorem refop_17 (U : Usual nat) {η : HN} {y : AV} {a b : Nat} (ha : a < 18446744073709551616) (hbl : b < 18446744073709551616) (hy : RdI .i64 η y [a, b]) : ∃ v η', CallN Tryz.prog nat 47 [opStr 17, y] η v η' ∧ v = .int .i64 (refF 17 a b) ∧ η' = η := by
  refine call_of (PT := pl47) Tryz.func47 rfl (U 47 (by decide)) ok47 rfl ?_
  obtain ⟨b0, off, cap, ro, row, ye, hb, hbn, r0⟩ := hy.at (i := 0) (by simp)
  obtain ⟨b1, off1, cap1, ro1, row1, ye1, hb1, hbn1, r1⟩ := hy.at (i := 1) (by simp)
  rw [ye] at ye1
  cases ye1
  rw [hb] at hb1
  cases hb1
  rw [show opStr 17 = .str 2 29295 from rfl, ye]
  rw [List.getElem_cons_zero, Nat.add_zero] at r0
  rw [List.getElem_cons_succ, List.getElem_cons_zero] at r1
  rw [show [a, b].length = 2 from rfl]
  by_cases h0 : a = 1
  · subst h0
    simp -implicitDefEqProofs (disch := omega) only [go_sem, hb, r0, r1, strEq_at]
    refine thenN_call ⟨_, _, truth72_call U _ _, ?_⟩
    simp -implicitDefEqProofs (disch := omega) only [go_sem]; first | rfl | exact ⟨rfl, rfl⟩
  · have e : refF 17 a b = truthN (decide (b = 1)) := by unfold refF; rw [if_neg (by decide), if_neg (by decide), if_neg (by decide), if_neg (by decide), if_neg (by decide), if_neg (by decide), if_neg (by decide), if_neg (by decide), if_neg (by decide), if_pos rfl, decide_eq_false h0]; rfl
    rw [e]
    simp -implicitDefEqProofs (disch := omega) only [go_sem, hb, r0, r1, strEq_at]
    refine thenN_call ⟨_, _, truth72_call U _ _, ?_⟩
    simp -implicitDefEqProofs (disch := omega) only [go_sem]
set_option maxHeartbeats 1000000 in
theorem refop_18 (U : Usual nat) {η : HN} {y : AV} {a b : Nat} (ha : a < 18446744073709551616) (hbl : b < 18446744073709551616) (hy : RdI .i64 η y [a, b]) : ∃ v η', CallN Tryz.prog nat 47 [opStr 18, y] η v η' ∧ v = .int .i64 (refF 18 a b) ∧ η' = η := by
  refine call_of (PT := pl47) Tryz.func47 rfl (U 47 (by decide)) ok47 rfl ?_
  obtain ⟨b0, off, cap, ro, row, ye, hb, hbn, r0⟩ := hy.at (i := 0) (by simp)
  obtain ⟨b1, off1, cap1, ro1, row1, ye1, hb1, hbn1, r1⟩ := hy.at (i := 1) (by simp)
  rw [ye] at ye1
  cases ye1
  rw [hb] at hb1
  cases hb1
  rw [show opStr 18 = .str 3 7499640 from rfl, ye]
  rw [List.getElem_cons_zero, Nat.add_zero] at r0
  rw [List.getElem_cons_succ, List.getElem_cons_zero] at r1
  rw [show [a, b].length = 2 from rfl]
  simp -implicitDefEqProofs (disch := omega) only [go_sem, hb, r0, r1, strEq_at]
  refine thenN_call ⟨_, _, truth72_call U _ _, ?_⟩
  simp -implicitDefEqProofs (disch := omega) only [go_sem]; first | rfl | exact ⟨rfl, rfl⟩
/-- an operator of two, of the document's own -/
theorem refop_call (U : Usual nat) {η : HN} {y : AV} {op a b : Nat} (hop : 8 ≤ op ∧ op ≤ 18) (ha : a < 18446744073709551616) (hb : b < 18446744073709551616) (hy : RdI .i64 η y [a, b]) : CallN Tryz.prog nat 47 [opStr op, y] η (.int .i64 (refF op a b)) η := by
  have : ∃ v η', CallN Tryz.prog nat 47 [opStr op, y] η v η' ∧ v = .int .i64 (refF op a b) ∧ η' = η := by
    have : op = 8 ∨ op = 9 ∨ op = 10 ∨ op = 11 ∨ op = 12 ∨ op = 13 ∨ op = 14 ∨ op = 15 ∨ op = 16 ∨ op = 17 ∨ op = 18 := by omega
    rcases this with rfl | rfl | rfl | rfl | rfl | rfl | rfl | rfl | rfl | rfl | rfl
    · exact refop_8 U ha hb hy
    · exact refop_9 U ha hb hy
    · exact refop_10 U ha hb hy
    · exact refop_11 U ha hb hy
    · exact refop_12 U ha hb hy
    · exact refop_13 U ha hb hy
    · exact refop_14 U ha hb hy
    · exact refop_15 U ha hb hy
    · exact refop_16 U ha hb hy
    · exact refop_17 U ha hb hy
    · exact refop_18 U ha hb hy
  obtain ⟨v, η', k, rfl, rfl⟩ := this
  exact k
end Go.Proofs.YtgccjneplchojaaGreatDoor
namespace Go.Proofs.YtgccjneplchojaaGreatDoor
open Go.Eng Go.Plain
set_option autoImplicit false
set_option maxRecDepth 100000
variable {nat : ∀ [Deep], Nats}
/-- rows that came in -/
structure Rw (η : HN) (a : AV × List Nat) : Prop where
  rd : RdI .i64 η a.1 a.2
  len : a.2.length ≤ 9223372036854775807
  lt : ∀ n ∈ a.2, n < 18446744073709551616
def RowsAt (η : HN) (y : AV) (rs : List (AV × List Nat)) : Prop := RdR 1 η y (rs.map fun a => [a.1]) ∧ ∀ a ∈ rs, Rw η a
theorem RowsAt.ext {η η' : HN} {y : AV} {rs : List (AV × List Nat)} (h : RowsAt η y rs) (e : ExtB η.nx η η') : RowsAt η' y rs := ⟨RdR.ext (base := η.nx) h.1 e, fun a ha => ⟨rdI_ext (h.2 a ha).rd e, (h.2 a ha).len, (h.2 a ha).lt⟩⟩
theorem RowsAt.len {η : HN} {y : AV} {rs : List (AV × List Nat)} (h : RowsAt η y rs) (hl : rs.length ≤ 9223372036854775807) : ∀ e y' η', lenN (.slice e 1 y') y η' = .ok (.int .i64 rs.length) η' := fun e y' η' => by
  have := RdR.len (e := e) (y' := y') (η' := η') h.1 (by simpa using hl)
  simpa using this
theorem RowsAt.at {η : HN} {y : AV} {rs : List (AV × List Nat)} (h : RowsAt η y rs) {i : Nat} (hi : i < rs.length) : ∃ b off cap ro row, y = .slice b off rs.length cap ∧ η.f b = .live ro row ∧ b < η.nx ∧ row[off + i]? = some rs[i].1 := by
  obtain ⟨b, off, cap, ro, row, h1, h2, h3, h4, h5⟩ := RdR.at (i := i) h.1 (by simpa using hi)
  simp only [List.length_map, List.getElem_map, Nat.mul_one] at h1 h5
  refine ⟨b, off, cap, ro, row, h1, h2, h3, ?_⟩
  have := congrArg (fun l : List AV => l[0]?) h5
  simp only [List.getElem?_take, List.getElem?_drop] at this
  simpa using this
theorem setsL_step {l r : List AV} {i : Nat} {a : AV} : setsL l i (a :: r) = setsL (l.set i a) (i + 1) r := rfl
end Go.Proofs.YtgccjneplchojaaGreatDoor
namespace Go.Proofs.YtgccjneplchojaaGreatDoor
open Go.Eng Go.Plain
set_option autoImplicit false
set_option maxRecDepth 100000
variable {nat : ∀ [Deep], Nats}
noncomputable def goS (p : PD) (s : List Nat × Nat) (r : List Nat) : List Nat × Nat := if fitF p.ins r then ((stepM p s.1 r).mems, s.2 + 1) else s
noncomputable def outS (p : PD) (ms r : List Nat) : List Nat := if fitF p.ins r then (stepM p ms r).outs else []
def RowO (base : Nat) (η : HN) (y : AV) (l : List Nat) : Prop := (y = .nilslice ∧ l = []) ∨ OutAt base η y l
theorem RowO.keep {base : Nat} {η η' : HN} {y : AV} {l : List Nat} (h : RowO base η y l) (hn : η.nx ≤ η'.nx) (hk : ∀ b, base ≤ b → b < η.nx → η'.f b = η.f b) : RowO base η' y l := h.imp id fun h => h.keep hn hk
end Go.Proofs.YtgccjneplchojaaGreatDoor
