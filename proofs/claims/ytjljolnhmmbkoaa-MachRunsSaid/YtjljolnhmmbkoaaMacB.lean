/- What is proved: an instruction of a machine. Conditions: as each theorem says. -/
import Derived.Test.YtjljolnhmmbkoaaMacA
set_option linter.unusedVariables false
set_option linter.unusedSimpArgs false
set_option linter.unusedSectionVars false
namespace Go.Proofs.Ytjljolnhmmbkoaa
open Go.Eng Go.Plain
set_option autoImplicit false
set_option maxRecDepth 100000
variable {nat : ∀ [Deep], Nats}
structure KpS (T : Nat → Nat) (η η' : HN) : Prop where
 nx : η.nx ≤ η'.nx
 keep : ∀ b, b < η.nx → T b = 0 → η'.f b = η.f b
theorem StepAt.slot {η η1 : HN} {T : Nat → Nat} {sp : Nat} {yi ys yo ym : AV} {s : Sm} {b : Nat} {cap : Cp} (h : StepAt η T sp yi s ys yo ym) (E : ExtB η.nx η η1) (hy : ys = .slice b 0 s.slots.length cap) (hb : T b = 1) (hbn : b < η.nx) (a x : Nat) :
  StepAt (η1.put b (.live false (i64s (s.slots.set a x)))) T sp yi { s with slots := s.slots.set a x } ys yo ym ∧ KpS T η (η1.put b (.live false (i64s (s.slots.set a x)))) := by
 have hn := E.1
 have hne : ∀ c, c < η.nx → T c ≠ 1 → (η1.put b (.live false (i64s (s.slots.set a x)))).f c = η.f c := fun c hc ht => by
  show (if c = b then _ else _) = _
  rw [if_neg (fun e => ht (by rw [e]; exact hb))]
  exact E.2 c hc
 refine ⟨⟨(hne sp h.tag.2 (by have := h.tag.1; omega)).trans h.cells, ⟨h.tag.1, Nat.lt_of_lt_of_le h.tag.2 hn⟩, .inr ⟨b, cap, by rw [List.length_set]; exact hy, Nat.lt_of_lt_of_le hbn hn, hb, by show (if b = b then _ else _) = _; rw [if_pos rfl]⟩, h.outs.of hn fun c hc ht => hne c hc (by omega), h.mems.of hn fun c hc ht => hne c hc (by omega)⟩, ⟨hn, fun c hc ht => hne c hc (by omega)⟩⟩
theorem StepAt.out {η η1 : HN} {T : Nat → Nat} {sp : Nat} {yi ys yo ym : AV} {s : Sm} {b : Nat} {cap : Cp} (h : StepAt η T sp yi s ys yo ym) (E : ExtB η.nx η η1) (hy : yo = .slice b 0 s.outs.length cap) (hb : T b = 2) (hbn : b < η.nx) (a x : Nat) :
  StepAt (η1.put b (.live false (i64s (s.outs.set a x)))) T sp yi { s with outs := s.outs.set a x } ys yo ym ∧ KpS T η (η1.put b (.live false (i64s (s.outs.set a x)))) := by
 have hn := E.1
 have hne : ∀ c, c < η.nx → T c ≠ 2 → (η1.put b (.live false (i64s (s.outs.set a x)))).f c = η.f c := fun c hc ht => by
  show (if c = b then _ else _) = _
  rw [if_neg (fun e => ht (by rw [e]; exact hb))]
  exact E.2 c hc
 refine ⟨⟨(hne sp h.tag.2 (by have := h.tag.1; omega)).trans h.cells, ⟨h.tag.1, Nat.lt_of_lt_of_le h.tag.2 hn⟩, h.slots.of hn fun c hc ht => hne c hc (by omega), .inr ⟨b, cap, by rw [List.length_set]; exact hy, Nat.lt_of_lt_of_le hbn hn, hb, by show (if b = b then _ else _) = _; rw [if_pos rfl]⟩, h.mems.of hn fun c hc ht => hne c hc (by omega)⟩, ⟨hn, fun c hc ht => hne c hc (by omega)⟩⟩
theorem StepAt.mem {η η1 : HN} {T : Nat → Nat} {sp : Nat} {yi ys yo ym : AV} {s : Sm} {b : Nat} {cap : Cp} (h : StepAt η T sp yi s ys yo ym) (E : ExtB η.nx η η1) (hy : ym = .slice b 0 s.mems.length cap) (hb : T b = 3) (hbn : b < η.nx) (a x : Nat) :
  StepAt (η1.put b (.live false (i64s (s.mems.set a x)))) T sp yi { s with mems := s.mems.set a x } ys yo ym ∧ KpS T η (η1.put b (.live false (i64s (s.mems.set a x)))) := by
 have hn := E.1
 have hne : ∀ c, c < η.nx → T c ≠ 3 → (η1.put b (.live false (i64s (s.mems.set a x)))).f c = η.f c := fun c hc ht => by
  show (if c = b then _ else _) = _
  rw [if_neg (fun e => ht (by rw [e]; exact hb))]
  exact E.2 c hc
 refine ⟨⟨(hne sp h.tag.2 (by have := h.tag.1; omega)).trans h.cells, ⟨h.tag.1, Nat.lt_of_lt_of_le h.tag.2 hn⟩, h.slots.of hn fun c hc ht => hne c hc (by omega), h.outs.of hn fun c hc ht => hne c hc (by omega), .inr ⟨b, cap, by rw [List.length_set]; exact hy, Nat.lt_of_lt_of_le hbn hn, hb, by show (if b = b then _ else _) = _; rw [if_pos rfl]⟩⟩, ⟨hn, fun c hc ht => hne c hc (by omega)⟩⟩
theorem StepAt.same {η η1 : HN} {T : Nat → Nat} {sp : Nat} {yi ys yo ym : AV} {s : Sm} (h : StepAt η T sp yi s ys yo ym) (E : ExtB η.nx η η1) : StepAt η1 T sp yi s ys yo ym ∧ KpS T η η1 :=
 ⟨⟨(E.2 _ h.tag.2).trans h.cells, ⟨h.tag.1, Nat.lt_of_lt_of_le h.tag.2 E.1⟩, h.slots.of E.1 fun c hc _ => E.2 c hc, h.outs.of E.1 fun c hc _ => E.2 c hc, h.mems.of E.1 fun c hc _ => E.2 c hc⟩, ⟨E.1, fun c hc _ => E.2 c hc⟩⟩
theorem ins_facts {η : HN} {z : PV} {p : PD} {s : Sm} {pc : Nat} {i : Ins} (hp : IsP η z p) (hf : Fine p) (hpc : pc < p.code.length) (hi0 : p.code[pc] = i) (hlt : ∀ n ∈ s.slots, n < 18446744073709551616) :
  ∃ bc offc capc roc rowc, z.z6 = .slice bc offc p.code.length capc ∧ η.f bc = .live roc rowc ∧ bc < η.nx ∧ offc + pc * 4 + 4 ≤ rowc.length ∧ (rowc.drop (offc + pc * 4)).take 4 = i.cells ∧ (∀ i, s.slots.getD i 0 < 18446744073709551616) ∧ (i64s s.slots).length = s.slots.length ∧ (i64s s.outs).length = s.outs.length ∧ (i64s s.mems).length = s.mems.length ∧
   p.ins.length ≤ 1099511627776 ∧ p.outs.length ≤ 1099511627776 ∧ p.slots.length ≤ 1099511627776 ∧ p.mems.length ≤ 1099511627776 ∧ p.consts.length ≤ 1099511627776 ∧ p.code.length ≤ 1099511627776 := by
 obtain ⟨bc, offc, capc, roc, rowc, z6e, hbc, hbcn, hlc, hrc⟩ := RdR.at (i := pc) hp.code (by simpa using hpc)
 simp only [List.length_map, List.getElem_map, hi0] at z6e hrc
 refine ⟨bc, offc, capc, roc, rowc, z6e, hbc, hbcn, hlc, hrc, fun i => ?_, i64s_len _, i64s_len _, i64s_len _, hf.ins.1, hf.outs.1, hf.slots.1, hf.mems.1, hf.consts.1, hf.code.1⟩
 rw [List.getD_eq_getElem?_getD]
 cases hx : s.slots[i]? with
 | none => show 0 < _; omega
 | some x => exact hlt x (List.mem_of_getElem? hx)
set_option maxHeartbeats 2000000 in
theorem do_0 (U : Usual nat) {η : HN} {T : Nat → Nat} {sp pc a b c : Nat} {yi ys yo ym : AV} {s : Sm} {z : PV} {p : PD} {inn : List Nat} {Q : AV → HN → Prop} (hp : IsP η z p) (hf : Fine p) (h : StepAt η T sp yi s ys yo ym) (hi : RdI .i64 η yi inn) (hpc : pc < p.code.length) (hi0 : p.code[pc] = ⟨0, a, b, c⟩) (ht : thereF p pc ⟨0, a, b, c⟩ = true)
  (hS : s.slots.length = p.slots.length ∧ s.outs.length = p.outs.length ∧ s.mems.length = p.mems.length ∧ inn.length = p.ins.length) (hlt : ∀ n ∈ s.slots, n < 18446744073709551616) (hQ : ∀ η', StepAt η' T sp yi (doI p inn ⟨0, a, b, c⟩ s) ys yo ym → KpS T η η' → Q (.int .i64 (nextI ⟨0, a, b, c⟩ pc s)) η') : ∃ v η', CallN Try.prog nat 53 [.ptr sp 0, .agg z.cells, .int .i64 pc] η v η' ∧ Q v η' := by
 refine call_of (PT := pl53) Try.func53 rfl (U 53 (by decide)) ok53 rfl ?_
 obtain ⟨hS, hO, hM, hI⟩ := hS
 obtain ⟨bc, offc, capc, roc, rowc, z6e, hbc, hbcn, hlc, hrc, getlt, g2, g3, g4, b1, b2, b3, b4, b5, b6⟩ := ins_facts hp hf hpc hi0 hlt
 have hrc : _ = ([.int .i64 0, .int .i64 a, .int .i64 b, .int .i64 c] : List AV) := hrc
 have ht : (has p.slots a && has p.consts b) = true := ht
 have hsp := h.cells
 have hspn := h.tag.2
 have E : ExtB η.nx η (((η.new (.live false z.cells)).new (.live false [.int .i64 0, .int .i64 0, .int .i64 0, .int .i64 0])).put (η.nx + 1) (.live false [.int .i64 0, .int .i64 a, .int .i64 b, .int .i64 c])) := extP (extN (extN (.refl _ _)))
 obtain ⟨t1, t2⟩ := and_lt ht
 have u1 := has_lt t1
 have u2 := has_lt t2
 obtain ⟨bs, caps, rfl, hsn, hst, hsb⟩ := h.slots.at (i := a) (by omega)
 obtain ⟨bq, offq, capq, roq, rowq, zq, hbq, hbqn, hrq⟩ := hp.consts.at u2
 simp -implicitDefEqProofs (disch := omega) only [go_sem, z6e, hbc, hrc, hsp, hsb, hbq, hrq, zq, not_le_f, false_implies, implies_true, true_and, and_true]
 rw [i64s_set]
 obtain ⟨q1, q2⟩ := h.slot E rfl hst hsn a (p.consts.getD b 0)
 rw [getD_get _ _ (by omega)] at q1 q2
 have hd : doI p inn ⟨0, a, b, c⟩ s = { s with slots := s.slots.set a (p.consts.getD b 0) } := rfl
 rw [getD_get _ _ (by omega)] at hd
 exact hQ _ (by rw [hd]; exact q1) q2
set_option maxHeartbeats 2000000 in
theorem do_1 (U : Usual nat) {η : HN} {T : Nat → Nat} {sp pc a b c : Nat} {yi ys yo ym : AV} {s : Sm} {z : PV} {p : PD} {inn : List Nat} {Q : AV → HN → Prop} (hp : IsP η z p) (hf : Fine p) (h : StepAt η T sp yi s ys yo ym) (hi : RdI .i64 η yi inn) (hpc : pc < p.code.length) (hi0 : p.code[pc] = ⟨1, a, b, c⟩) (ht : thereF p pc ⟨1, a, b, c⟩ = true)
  (hS : s.slots.length = p.slots.length ∧ s.outs.length = p.outs.length ∧ s.mems.length = p.mems.length ∧ inn.length = p.ins.length) (hlt : ∀ n ∈ s.slots, n < 18446744073709551616) (hQ : ∀ η', StepAt η' T sp yi (doI p inn ⟨1, a, b, c⟩ s) ys yo ym → KpS T η η' → Q (.int .i64 (nextI ⟨1, a, b, c⟩ pc s)) η') : ∃ v η', CallN Try.prog nat 53 [.ptr sp 0, .agg z.cells, .int .i64 pc] η v η' ∧ Q v η' := by
 refine call_of (PT := pl53) Try.func53 rfl (U 53 (by decide)) ok53 rfl ?_
 obtain ⟨hS, hO, hM, hI⟩ := hS
 obtain ⟨bc, offc, capc, roc, rowc, z6e, hbc, hbcn, hlc, hrc, getlt, g2, g3, g4, b1, b2, b3, b4, b5, b6⟩ := ins_facts hp hf hpc hi0 hlt
 have hrc : _ = ([.int .i64 1, .int .i64 a, .int .i64 b, .int .i64 c] : List AV) := hrc
 have ht : (has p.slots a && has p.slots b) = true := ht
 have hsp := h.cells
 have hspn := h.tag.2
 have E : ExtB η.nx η (((η.new (.live false z.cells)).new (.live false [.int .i64 0, .int .i64 0, .int .i64 0, .int .i64 0])).put (η.nx + 1) (.live false [.int .i64 1, .int .i64 a, .int .i64 b, .int .i64 c])) := extP (extN (extN (.refl _ _)))
 obtain ⟨t1, t2⟩ := and_lt ht
 have u1 := has_lt t1
 have u2 := has_lt t2
 obtain ⟨bs, caps, rfl, hsn, hst, hsb⟩ := h.slots.at (i := a) (by omega)
 have g1 := i64s_at (l := s.slots) (i := b) (by omega)
 have lb := getlt b
 simp -implicitDefEqProofs (disch := omega) only [go_sem, z6e, hbc, hrc, hsp, hsb, g1, not_le_f, false_implies, implies_true, true_and, and_true]
 rw [i64s_set]
 obtain ⟨q1, q2⟩ := h.slot E rfl hst hsn a (s.slots.getD b 0)
 exact hQ _ q1 q2
set_option maxHeartbeats 2000000 in
theorem do_2 (U : Usual nat) {η : HN} {T : Nat → Nat} {sp pc a b c : Nat} {yi ys yo ym : AV} {s : Sm} {z : PV} {p : PD} {inn : List Nat} {Q : AV → HN → Prop} (hp : IsP η z p) (hf : Fine p) (h : StepAt η T sp yi s ys yo ym) (hi : RdI .i64 η yi inn) (hpc : pc < p.code.length) (hi0 : p.code[pc] = ⟨2, a, b, c⟩) (ht : thereF p pc ⟨2, a, b, c⟩ = true)
  (hS : s.slots.length = p.slots.length ∧ s.outs.length = p.outs.length ∧ s.mems.length = p.mems.length ∧ inn.length = p.ins.length) (hlt : ∀ n ∈ s.slots, n < 18446744073709551616) (hQ : ∀ η', StepAt η' T sp yi (doI p inn ⟨2, a, b, c⟩ s) ys yo ym → KpS T η η' → Q (.int .i64 (nextI ⟨2, a, b, c⟩ pc s)) η') : ∃ v η', CallN Try.prog nat 53 [.ptr sp 0, .agg z.cells, .int .i64 pc] η v η' ∧ Q v η' := by
 refine call_of (PT := pl53) Try.func53 rfl (U 53 (by decide)) ok53 rfl ?_
 obtain ⟨hS, hO, hM, hI⟩ := hS
 obtain ⟨bc, offc, capc, roc, rowc, z6e, hbc, hbcn, hlc, hrc, getlt, g2, g3, g4, b1, b2, b3, b4, b5, b6⟩ := ins_facts hp hf hpc hi0 hlt
 have hrc : _ = ([.int .i64 2, .int .i64 a, .int .i64 b, .int .i64 c] : List AV) := hrc
 have ht : (has p.slots a && has p.mems b) = true := ht
 have hsp := h.cells
 have hspn := h.tag.2
 have E : ExtB η.nx η (((η.new (.live false z.cells)).new (.live false [.int .i64 0, .int .i64 0, .int .i64 0, .int .i64 0])).put (η.nx + 1) (.live false [.int .i64 2, .int .i64 a, .int .i64 b, .int .i64 c])) := extP (extN (extN (.refl _ _)))
 obtain ⟨t1, t2⟩ := and_lt ht
 have u1 := has_lt t1
 have u2 := has_lt t2
 obtain ⟨bs, caps, rfl, hsn, hst, hsb⟩ := h.slots.at (i := a) (by omega)
 obtain ⟨bm, capm, rfl, hmn, hmt, hmb⟩ := h.mems.at (i := b) (by omega)
 have g1 := i64s_at (l := s.mems) (i := b) (by omega)
 simp -implicitDefEqProofs (disch := omega) only [go_sem, z6e, hbc, hrc, hsp, hsb, hmb, g1, not_le_f, false_implies, implies_true, true_and, and_true]
 rw [i64s_set]
 obtain ⟨q1, q2⟩ := h.slot E rfl hst hsn a (s.mems.getD b 0)
 exact hQ _ q1 q2
set_option maxHeartbeats 2000000 in
theorem do_3 (U : Usual nat) {η : HN} {T : Nat → Nat} {sp pc a b c : Nat} {yi ys yo ym : AV} {s : Sm} {z : PV} {p : PD} {inn : List Nat} {Q : AV → HN → Prop} (hp : IsP η z p) (hf : Fine p) (h : StepAt η T sp yi s ys yo ym) (hi : RdI .i64 η yi inn) (hpc : pc < p.code.length) (hi0 : p.code[pc] = ⟨3, a, b, c⟩) (ht : thereF p pc ⟨3, a, b, c⟩ = true)
  (hS : s.slots.length = p.slots.length ∧ s.outs.length = p.outs.length ∧ s.mems.length = p.mems.length ∧ inn.length = p.ins.length) (hlt : ∀ n ∈ s.slots, n < 18446744073709551616) (hQ : ∀ η', StepAt η' T sp yi (doI p inn ⟨3, a, b, c⟩ s) ys yo ym → KpS T η η' → Q (.int .i64 (nextI ⟨3, a, b, c⟩ pc s)) η') : ∃ v η', CallN Try.prog nat 53 [.ptr sp 0, .agg z.cells, .int .i64 pc] η v η' ∧ Q v η' := by
 refine call_of (PT := pl53) Try.func53 rfl (U 53 (by decide)) ok53 rfl ?_
 obtain ⟨hS, hO, hM, hI⟩ := hS
 obtain ⟨bc, offc, capc, roc, rowc, z6e, hbc, hbcn, hlc, hrc, getlt, g2, g3, g4, b1, b2, b3, b4, b5, b6⟩ := ins_facts hp hf hpc hi0 hlt
 have hrc : _ = ([.int .i64 3, .int .i64 a, .int .i64 b, .int .i64 c] : List AV) := hrc
 have ht : (has p.mems a && has p.slots b) = true := ht
 have hsp := h.cells
 have hspn := h.tag.2
 have E : ExtB η.nx η (((η.new (.live false z.cells)).new (.live false [.int .i64 0, .int .i64 0, .int .i64 0, .int .i64 0])).put (η.nx + 1) (.live false [.int .i64 3, .int .i64 a, .int .i64 b, .int .i64 c])) := extP (extN (extN (.refl _ _)))
 obtain ⟨t1, t2⟩ := and_lt ht
 have u1 := has_lt t1
 have u2 := has_lt t2
 obtain ⟨bs, caps, rfl, hsn, hst, hsb⟩ := h.slots.at (i := b) (by omega)
 obtain ⟨bm, capm, rfl, hmn, hmt, hmb⟩ := h.mems.at (i := a) (by omega)
 have g1 := i64s_at (l := s.slots) (i := b) (by omega)
 simp -implicitDefEqProofs (disch := omega) only [go_sem, z6e, hbc, hrc, hsp, hsb, hmb, g1, not_le_f, false_implies, implies_true, true_and, and_true]
 rw [i64s_set]
 obtain ⟨q1, q2⟩ := h.mem E rfl hmt hmn a (s.slots.getD b 0)
 exact hQ _ q1 q2
set_option maxHeartbeats 2000000 in
theorem do_4 (U : Usual nat) {η : HN} {T : Nat → Nat} {sp pc a b c : Nat} {yi ys yo ym : AV} {s : Sm} {z : PV} {p : PD} {inn : List Nat} {Q : AV → HN → Prop} (hp : IsP η z p) (hf : Fine p) (h : StepAt η T sp yi s ys yo ym) (hi : RdI .i64 η yi inn) (hpc : pc < p.code.length) (hi0 : p.code[pc] = ⟨4, a, b, c⟩) (ht : thereF p pc ⟨4, a, b, c⟩ = true)
  (hS : s.slots.length = p.slots.length ∧ s.outs.length = p.outs.length ∧ s.mems.length = p.mems.length ∧ inn.length = p.ins.length) (hlt : ∀ n ∈ s.slots, n < 18446744073709551616) (hQ : ∀ η', StepAt η' T sp yi (doI p inn ⟨4, a, b, c⟩ s) ys yo ym → KpS T η η' → Q (.int .i64 (nextI ⟨4, a, b, c⟩ pc s)) η') : ∃ v η', CallN Try.prog nat 53 [.ptr sp 0, .agg z.cells, .int .i64 pc] η v η' ∧ Q v η' := by
 refine call_of (PT := pl53) Try.func53 rfl (U 53 (by decide)) ok53 rfl ?_
 obtain ⟨hS, hO, hM, hI⟩ := hS
 obtain ⟨bc, offc, capc, roc, rowc, z6e, hbc, hbcn, hlc, hrc, getlt, g2, g3, g4, b1, b2, b3, b4, b5, b6⟩ := ins_facts hp hf hpc hi0 hlt
 have hrc : _ = ([.int .i64 4, .int .i64 a, .int .i64 b, .int .i64 c] : List AV) := hrc
 have ht : (has p.slots a && has p.ins b) = true := ht
 have hsp := h.cells
 have hspn := h.tag.2
 have E : ExtB η.nx η (((η.new (.live false z.cells)).new (.live false [.int .i64 0, .int .i64 0, .int .i64 0, .int .i64 0])).put (η.nx + 1) (.live false [.int .i64 4, .int .i64 a, .int .i64 b, .int .i64 c])) := extP (extN (extN (.refl _ _)))
 obtain ⟨t1, t2⟩ := and_lt ht
 have u1 := has_lt t1
 have u2 := has_lt t2
 obtain ⟨bs, caps, rfl, hsn, hst, hsb⟩ := h.slots.at (i := a) (by omega)
 obtain ⟨bq, offq, capq, roq, rowq, zq, hbq, hbqn, hrq⟩ := hi.at (i := b) (by omega)
 subst zq
 simp -implicitDefEqProofs (disch := omega) only [go_sem, z6e, hbc, hrc, hsp, hsb, hbq, hrq, not_le_f, false_implies, implies_true, true_and, and_true]
 rw [i64s_set]
 obtain ⟨q1, q2⟩ := h.slot E rfl hst hsn a (inn.getD b 0)
 rw [getD_get _ _ (by omega)] at q1 q2
 have hd : doI p inn ⟨4, a, b, c⟩ s = { s with slots := s.slots.set a (inn.getD b 0) } := rfl
 rw [getD_get _ _ (by omega)] at hd
 exact hQ _ (by rw [hd]; exact q1) q2
set_option maxHeartbeats 2000000 in
theorem do_5 (U : Usual nat) {η : HN} {T : Nat → Nat} {sp pc a b c : Nat} {yi ys yo ym : AV} {s : Sm} {z : PV} {p : PD} {inn : List Nat} {Q : AV → HN → Prop} (hp : IsP η z p) (hf : Fine p) (h : StepAt η T sp yi s ys yo ym) (hi : RdI .i64 η yi inn) (hpc : pc < p.code.length) (hi0 : p.code[pc] = ⟨5, a, b, c⟩) (ht : thereF p pc ⟨5, a, b, c⟩ = true)
  (hS : s.slots.length = p.slots.length ∧ s.outs.length = p.outs.length ∧ s.mems.length = p.mems.length ∧ inn.length = p.ins.length) (hlt : ∀ n ∈ s.slots, n < 18446744073709551616) (hQ : ∀ η', StepAt η' T sp yi (doI p inn ⟨5, a, b, c⟩ s) ys yo ym → KpS T η η' → Q (.int .i64 (nextI ⟨5, a, b, c⟩ pc s)) η') : ∃ v η', CallN Try.prog nat 53 [.ptr sp 0, .agg z.cells, .int .i64 pc] η v η' ∧ Q v η' := by
 refine call_of (PT := pl53) Try.func53 rfl (U 53 (by decide)) ok53 rfl ?_
 obtain ⟨hS, hO, hM, hI⟩ := hS
 obtain ⟨bc, offc, capc, roc, rowc, z6e, hbc, hbcn, hlc, hrc, getlt, g2, g3, g4, b1, b2, b3, b4, b5, b6⟩ := ins_facts hp hf hpc hi0 hlt
 have hrc : _ = ([.int .i64 5, .int .i64 a, .int .i64 b, .int .i64 c] : List AV) := hrc
 have ht : (has p.outs a && has p.slots b) = true := ht
 have hsp := h.cells
 have hspn := h.tag.2
 have E : ExtB η.nx η (((η.new (.live false z.cells)).new (.live false [.int .i64 0, .int .i64 0, .int .i64 0, .int .i64 0])).put (η.nx + 1) (.live false [.int .i64 5, .int .i64 a, .int .i64 b, .int .i64 c])) := extP (extN (extN (.refl _ _)))
 obtain ⟨t1, t2⟩ := and_lt ht
 have u1 := has_lt t1
 have u2 := has_lt t2
 obtain ⟨bs, caps, rfl, hsn, hst, hsb⟩ := h.slots.at (i := b) (by omega)
 obtain ⟨bm, capm, rfl, hmn, hmt, hmb⟩ := h.outs.at (i := a) (by omega)
 have g1 := i64s_at (l := s.slots) (i := b) (by omega)
 simp -implicitDefEqProofs (disch := omega) only [go_sem, z6e, hbc, hrc, hsp, hsb, hmb, g1, not_le_f, false_implies, implies_true, true_and, and_true]
 rw [i64s_set]
 obtain ⟨q1, q2⟩ := h.out E rfl hmt hmn a (s.slots.getD b 0)
 exact hQ _ q1 q2
set_option maxHeartbeats 2000000 in
theorem do_6 (U : Usual nat) {η : HN} {T : Nat → Nat} {sp pc a b c : Nat} {yi ys yo ym : AV} {s : Sm} {z : PV} {p : PD} {inn : List Nat} {Q : AV → HN → Prop} (hp : IsP η z p) (hf : Fine p) (h : StepAt η T sp yi s ys yo ym) (hi : RdI .i64 η yi inn) (hpc : pc < p.code.length) (hi0 : p.code[pc] = ⟨6, a, b, c⟩) (ht : thereF p pc ⟨6, a, b, c⟩ = true)
  (hS : s.slots.length = p.slots.length ∧ s.outs.length = p.outs.length ∧ s.mems.length = p.mems.length ∧ inn.length = p.ins.length) (hlt : ∀ n ∈ s.slots, n < 18446744073709551616) (hQ : ∀ η', StepAt η' T sp yi (doI p inn ⟨6, a, b, c⟩ s) ys yo ym → KpS T η η' → Q (.int .i64 (nextI ⟨6, a, b, c⟩ pc s)) η') : ∃ v η', CallN Try.prog nat 53 [.ptr sp 0, .agg z.cells, .int .i64 pc] η v η' ∧ Q v η' := by
 refine call_of (PT := pl53) Try.func53 rfl (U 53 (by decide)) ok53 rfl ?_
 obtain ⟨hS, hO, hM, hI⟩ := hS
 obtain ⟨bc, offc, capc, roc, rowc, z6e, hbc, hbcn, hlc, hrc, getlt, g2, g3, g4, b1, b2, b3, b4, b5, b6⟩ := ins_facts hp hf hpc hi0 hlt
 have hrc : _ = ([.int .i64 6, .int .i64 a, .int .i64 b, .int .i64 c] : List AV) := hrc
 have ht : (has p.slots a && has p.slots b) = true := ht
 have hsp := h.cells
 have hspn := h.tag.2
 have E : ExtB η.nx η (((η.new (.live false z.cells)).new (.live false [.int .i64 0, .int .i64 0, .int .i64 0, .int .i64 0])).put (η.nx + 1) (.live false [.int .i64 6, .int .i64 a, .int .i64 b, .int .i64 c])) := extP (extN (extN (.refl _ _)))
 obtain ⟨t1, t2⟩ := and_lt ht
 have u1 := has_lt t1
 have u2 := has_lt t2
 obtain ⟨bs, caps, rfl, hsn, hst, hsb⟩ := h.slots.at (i := a) (by omega)
 have g1 := i64s_at (l := s.slots) (i := b) (by omega)
 have lb := getlt b
 simp -implicitDefEqProofs (disch := omega) only [go_sem, z6e, hbc, hrc, hsp, hsb, g1, not_le_f, false_implies, implies_true, true_and, and_true]
 rw [i64s_set]
 obtain ⟨q1, q2⟩ := h.slot E rfl hst hsn a ((1 + (18446744073709551616 - s.slots.getD b 0)) % 18446744073709551616)
 exact hQ _ q1 q2
set_option maxHeartbeats 2000000 in
theorem do_7 (U : Usual nat) {η : HN} {T : Nat → Nat} {sp pc a b c : Nat} {yi ys yo ym : AV} {s : Sm} {z : PV} {p : PD} {inn : List Nat} {Q : AV → HN → Prop} (hp : IsP η z p) (hf : Fine p) (h : StepAt η T sp yi s ys yo ym) (hi : RdI .i64 η yi inn) (hpc : pc < p.code.length) (hi0 : p.code[pc] = ⟨7, a, b, c⟩) (ht : thereF p pc ⟨7, a, b, c⟩ = true)
  (hS : s.slots.length = p.slots.length ∧ s.outs.length = p.outs.length ∧ s.mems.length = p.mems.length ∧ inn.length = p.ins.length) (hlt : ∀ n ∈ s.slots, n < 18446744073709551616) (hQ : ∀ η', StepAt η' T sp yi (doI p inn ⟨7, a, b, c⟩ s) ys yo ym → KpS T η η' → Q (.int .i64 (nextI ⟨7, a, b, c⟩ pc s)) η') : ∃ v η', CallN Try.prog nat 53 [.ptr sp 0, .agg z.cells, .int .i64 pc] η v η' ∧ Q v η' := by
 refine call_of (PT := pl53) Try.func53 rfl (U 53 (by decide)) ok53 rfl ?_
 obtain ⟨hS, hO, hM, hI⟩ := hS
 obtain ⟨bc, offc, capc, roc, rowc, z6e, hbc, hbcn, hlc, hrc, getlt, g2, g3, g4, b1, b2, b3, b4, b5, b6⟩ := ins_facts hp hf hpc hi0 hlt
 have hrc : _ = ([.int .i64 7, .int .i64 a, .int .i64 b, .int .i64 c] : List AV) := hrc
 have ht : (has p.slots a && has p.slots b) = true := ht
 have hsp := h.cells
 have hspn := h.tag.2
 have E : ExtB η.nx η (((η.new (.live false z.cells)).new (.live false [.int .i64 0, .int .i64 0, .int .i64 0, .int .i64 0])).put (η.nx + 1) (.live false [.int .i64 7, .int .i64 a, .int .i64 b, .int .i64 c])) := extP (extN (extN (.refl _ _)))
 obtain ⟨t1, t2⟩ := and_lt ht
 have u1 := has_lt t1
 have u2 := has_lt t2
 obtain ⟨bs, caps, rfl, hsn, hst, hsb⟩ := h.slots.at (i := a) (by omega)
 have g1 := i64s_at (l := s.slots) (i := b) (by omega)
 have lb := getlt b
 simp -implicitDefEqProofs (disch := omega) only [go_sem, z6e, hbc, hrc, hsp, hsb, g1, not_le_f, false_implies, implies_true, true_and, and_true]
 rw [i64s_set]
 obtain ⟨q1, q2⟩ := h.slot E rfl hst hsn a ((18446744073709551616 - s.slots.getD b 0) % 18446744073709551616)
 exact hQ _ q1 q2
set_option maxHeartbeats 2000000 in
theorem do_19 (U : Usual nat) {η : HN} {T : Nat → Nat} {sp pc a b c : Nat} {yi ys yo ym : AV} {s : Sm} {z : PV} {p : PD} {inn : List Nat} {Q : AV → HN → Prop} (hp : IsP η z p) (hf : Fine p) (h : StepAt η T sp yi s ys yo ym) (hi : RdI .i64 η yi inn) (hpc : pc < p.code.length) (hi0 : p.code[pc] = ⟨19, a, b, c⟩) (ht : thereF p pc ⟨19, a, b, c⟩ = true)
  (hS : s.slots.length = p.slots.length ∧ s.outs.length = p.outs.length ∧ s.mems.length = p.mems.length ∧ inn.length = p.ins.length) (hlt : ∀ n ∈ s.slots, n < 18446744073709551616) (hQ : ∀ η', StepAt η' T sp yi (doI p inn ⟨19, a, b, c⟩ s) ys yo ym → KpS T η η' → Q (.int .i64 (nextI ⟨19, a, b, c⟩ pc s)) η') : ∃ v η', CallN Try.prog nat 53 [.ptr sp 0, .agg z.cells, .int .i64 pc] η v η' ∧ Q v η' := by
 refine call_of (PT := pl53) Try.func53 rfl (U 53 (by decide)) ok53 rfl ?_
 obtain ⟨hS, hO, hM, hI⟩ := hS
 obtain ⟨bc, offc, capc, roc, rowc, z6e, hbc, hbcn, hlc, hrc, getlt, g2, g3, g4, b1, b2, b3, b4, b5, b6⟩ := ins_facts hp hf hpc hi0 hlt
 have hrc : _ = ([.int .i64 19, .int .i64 a, .int .i64 b, .int .i64 c] : List AV) := hrc
 have ht : (targetF p pc a && has p.slots b) = true := ht
 have hsp := h.cells
 have hspn := h.tag.2
 have E : ExtB η.nx η (((η.new (.live false z.cells)).new (.live false [.int .i64 0, .int .i64 0, .int .i64 0, .int .i64 0])).put (η.nx + 1) (.live false [.int .i64 19, .int .i64 a, .int .i64 b, .int .i64 c])) := extP (extN (extN (.refl _ _)))
 have t2 := (and_lt ht).2
 have u2 := has_lt t2
 obtain ⟨bs, caps, rfl, hsn, hst, hsb⟩ := h.slots.at (i := b) (by omega)
 have g1 := i64s_at (l := s.slots) (i := b) (by omega)
 obtain ⟨q1, q2⟩ := h.same E
 have hq := hQ _ q1 q2
 by_cases h0 : s.slots.getD b 0 = 0
 ·have e : nextI ⟨19, a, b, c⟩ pc s = a := by unfold nextI; rw [if_pos rfl, if_pos h0]
  rw [e] at hq
  simp -implicitDefEqProofs (disch := omega) only [go_sem, z6e, hbc, hrc, hsp, hsb, g1, not_le_f, false_implies, implies_true, true_and, and_true]
  exact hq
 ·have e : nextI ⟨19, a, b, c⟩ pc s = pc + 1 := by unfold nextI; rw [if_pos rfl, if_neg h0]
  rw [e] at hq
  simp -implicitDefEqProofs (disch := omega) only [go_sem, z6e, hbc, hrc, hsp, hsb, g1, not_le_f, false_implies, implies_true, true_and, and_true]
  exact hq
set_option maxHeartbeats 2000000 in
theorem do_20 (U : Usual nat) {η : HN} {T : Nat → Nat} {sp pc a b c : Nat} {yi ys yo ym : AV} {s : Sm} {z : PV} {p : PD} {inn : List Nat} {Q : AV → HN → Prop} (hp : IsP η z p) (hf : Fine p) (h : StepAt η T sp yi s ys yo ym) (hi : RdI .i64 η yi inn) (hpc : pc < p.code.length) (hi0 : p.code[pc] = ⟨20, a, b, c⟩) (ht : thereF p pc ⟨20, a, b, c⟩ = true)
  (hS : s.slots.length = p.slots.length ∧ s.outs.length = p.outs.length ∧ s.mems.length = p.mems.length ∧ inn.length = p.ins.length) (hlt : ∀ n ∈ s.slots, n < 18446744073709551616) (hQ : ∀ η', StepAt η' T sp yi (doI p inn ⟨20, a, b, c⟩ s) ys yo ym → KpS T η η' → Q (.int .i64 (nextI ⟨20, a, b, c⟩ pc s)) η') : ∃ v η', CallN Try.prog nat 53 [.ptr sp 0, .agg z.cells, .int .i64 pc] η v η' ∧ Q v η' := by
 refine call_of (PT := pl53) Try.func53 rfl (U 53 (by decide)) ok53 rfl ?_
 obtain ⟨hS, hO, hM, hI⟩ := hS
 obtain ⟨bc, offc, capc, roc, rowc, z6e, hbc, hbcn, hlc, hrc, getlt, g2, g3, g4, b1, b2, b3, b4, b5, b6⟩ := ins_facts hp hf hpc hi0 hlt
 have hrc : _ = ([.int .i64 20, .int .i64 a, .int .i64 b, .int .i64 c] : List AV) := hrc
 have ht : (targetF p pc a) = true := ht
 have hsp := h.cells
 have hspn := h.tag.2
 have E : ExtB η.nx η (((η.new (.live false z.cells)).new (.live false [.int .i64 0, .int .i64 0, .int .i64 0, .int .i64 0])).put (η.nx + 1) (.live false [.int .i64 20, .int .i64 a, .int .i64 b, .int .i64 c])) := extP (extN (extN (.refl _ _)))
 simp -implicitDefEqProofs (disch := omega) only [go_sem, z6e, hbc, hrc, hsp, not_le_f, false_implies, implies_true, true_and, and_true]
 obtain ⟨q1, q2⟩ := h.same E
 exact hQ _ q1 q2
end Go.Proofs.Ytjljolnhmmbkoaa
