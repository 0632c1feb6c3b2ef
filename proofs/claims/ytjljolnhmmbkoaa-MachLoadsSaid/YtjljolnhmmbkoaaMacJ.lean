/- What is proved: an instruction of the document's own machine. an instruction of the document's own machine. Conditions: as each theorem says. -/
import Derived.Test.YtjljolnhmmbkoaaMacI
set_option linter.unusedVariables false
set_option linter.unusedSimpArgs false
set_option linter.unusedSectionVars false
namespace Go.Proofs.Ytjljolnhmmbkoaa
open Go.Eng Go.Plain
set_option autoImplicit false
set_option maxRecDepth 100000
variable {nat : ∀ [Deep], Nats}
def findL : Nat → Code → Option Code
 | 0, _ => none
 | n + 1, .seq a b => match findL n a with | some c => some c | none => findL n b
 | n + 1, .block _ b => findL n b
 | _ + 1, .loop b => some b
 | _ + 1, _ => none
def fnB (f : Func) : Code := match f.body with | some c => c | none => .skip
structure RfAt (η : HN) (T : Nat → Nat) (s : Sm) (ys yo ym : AV) : Prop where
 slots : SlAt η T 1 ys s.slots
 outs : SlAt η T 2 yo s.outs
 mems : SlAt η T 3 ym s.mems
theorem RfAt.slot {η η1 : HN} {T : Nat → Nat} {ys yo ym : AV} {s : Sm} {b : Nat} {cap : Cp} (h : RfAt η T s ys yo ym) (E : ExtB η.nx η η1) (hy : ys = .slice b 0 s.slots.length cap) (hb : T b = 1) (hbn : b < η.nx) (a x : Nat) :
  RfAt (η1.put b (.live false (i64s (s.slots.set a x)))) T { s with slots := s.slots.set a x } ys yo ym ∧ KpS T η (η1.put b (.live false (i64s (s.slots.set a x)))) := by
 have hn := E.1
 have hne : ∀ c, c < η.nx → T c ≠ 1 → (η1.put b (.live false (i64s (s.slots.set a x)))).f c = η.f c := fun c hc ht => by
  show (if c = b then _ else _) = _
  rw [if_neg (fun e => ht (by rw [e]; exact hb))]
  exact E.2 c hc
 exact ⟨⟨.inr ⟨b, cap, by rw [List.length_set]; exact hy, Nat.lt_of_lt_of_le hbn hn, hb, by show (if b = b then _ else _) = _; rw [if_pos rfl]⟩, h.outs.of hn fun c hc ht => hne c hc (by omega), h.mems.of hn fun c hc ht => hne c hc (by omega)⟩, ⟨hn, fun c hc ht => hne c hc (by omega)⟩⟩
theorem RfAt.out {η η1 : HN} {T : Nat → Nat} {ys yo ym : AV} {s : Sm} {b : Nat} {cap : Cp} (h : RfAt η T s ys yo ym) (E : ExtB η.nx η η1) (hy : yo = .slice b 0 s.outs.length cap) (hb : T b = 2) (hbn : b < η.nx) (a x : Nat) :
  RfAt (η1.put b (.live false (i64s (s.outs.set a x)))) T { s with outs := s.outs.set a x } ys yo ym ∧ KpS T η (η1.put b (.live false (i64s (s.outs.set a x)))) := by
 have hn := E.1
 have hne : ∀ c, c < η.nx → T c ≠ 2 → (η1.put b (.live false (i64s (s.outs.set a x)))).f c = η.f c := fun c hc ht => by
  show (if c = b then _ else _) = _
  rw [if_neg (fun e => ht (by rw [e]; exact hb))]
  exact E.2 c hc
 exact ⟨⟨h.slots.of hn fun c hc ht => hne c hc (by omega), .inr ⟨b, cap, by rw [List.length_set]; exact hy, Nat.lt_of_lt_of_le hbn hn, hb, by show (if b = b then _ else _) = _; rw [if_pos rfl]⟩, h.mems.of hn fun c hc ht => hne c hc (by omega)⟩, ⟨hn, fun c hc ht => hne c hc (by omega)⟩⟩
theorem RfAt.mem {η η1 : HN} {T : Nat → Nat} {ys yo ym : AV} {s : Sm} {b : Nat} {cap : Cp} (h : RfAt η T s ys yo ym) (E : ExtB η.nx η η1) (hy : ym = .slice b 0 s.mems.length cap) (hb : T b = 3) (hbn : b < η.nx) (a x : Nat) :
  RfAt (η1.put b (.live false (i64s (s.mems.set a x)))) T { s with mems := s.mems.set a x } ys yo ym ∧ KpS T η (η1.put b (.live false (i64s (s.mems.set a x)))) := by
 have hn := E.1
 have hne : ∀ c, c < η.nx → T c ≠ 3 → (η1.put b (.live false (i64s (s.mems.set a x)))).f c = η.f c := fun c hc ht => by
  show (if c = b then _ else _) = _
  rw [if_neg (fun e => ht (by rw [e]; exact hb))]
  exact E.2 c hc
 exact ⟨⟨h.slots.of hn fun c hc ht => hne c hc (by omega), h.outs.of hn fun c hc ht => hne c hc (by omega), .inr ⟨b, cap, by rw [List.length_set]; exact hy, Nat.lt_of_lt_of_le hbn hn, hb, by show (if b = b then _ else _) = _; rw [if_pos rfl]⟩⟩, ⟨hn, fun c hc ht => hne c hc (by omega)⟩⟩
theorem RfAt.same {η η1 : HN} {T : Nat → Nat} {ys yo ym : AV} {s : Sm} (h : RfAt η T s ys yo ym) (E : ExtB η.nx η η1) : RfAt η1 T s ys yo ym ∧ KpS T η η1 :=
 ⟨⟨h.slots.of E.1 fun c hc _ => E.2 c hc, h.outs.of E.1 fun c hc _ => E.2 c hc, h.mems.of E.1 fun c hc _ => E.2 c hc⟩, ⟨E.1, fun c hc _ => E.2 c hc⟩⟩
structure RfIn (η : HN) (T : Nat → Nat) (φ : FN) (mp pc ticks : Nat) (i : Ins) (yi ys yo ym : AV) (s : Sm) (z : PV) (p : PD) (inn : List Nat) : Prop where
 hp : IsP η z p
 hf : Fine p
 h : RfAt η T s ys yo ym
 hi : RdI .i64 η yi inn
 hpc : pc < p.code.length
 hi0 : p.code[pc] = i
 ht : thereF p pc i = true
 hS : s.slots.length = p.slots.length ∧ s.outs.length = p.outs.length ∧ s.mems.length = p.mems.length ∧ inn.length = p.ins.length
 hlt : ∀ n ∈ s.slots, n < 18446744073709551616
 hm : η.f mp = .live false [z.z1, z.z2, z.z3, z.z4, z.z5, z.z6, ym, .int .i64 ticks]
 hmn : mp < η.nx
 p0 : φ 0 = .ptr mp 0
 p1 : φ 1 = yi
 p6 : φ 6 = ys
 p7 : φ 7 = yo
 p8 : φ 8 = .int .i64 pc
theorem refop6_then (U : Usual nat) {η : HN} {y : AV} {a : Nat} {Q : AV → HN → Prop} (hy : RdI .i64 η y [a]) (h : Q (.int .i64 ((1 + (18446744073709551616 - a)) % 18446744073709551616)) η) : ∃ v η', CallN Try.prog nat 40 [opStr 6, y] η v η' ∧ Q v η' := by
 obtain ⟨v, η', k, rfl, rfl⟩ := refop_6 U hy
 exact ⟨_, _, k, h⟩
theorem refop7_then (U : Usual nat) {η : HN} {y : AV} {a : Nat} {Q : AV → HN → Prop} (hy : RdI .i64 η y [a]) (h : Q (.int .i64 ((18446744073709551616 - a) % 18446744073709551616)) η) : ∃ v η', CallN Try.prog nat 40 [opStr 7, y] η v η' ∧ Q v η' := by
 obtain ⟨v, η', k, rfl, rfl⟩ := refop_7 U hy
 exact ⟨_, _, k, h⟩
def RfOut (K : Kont) (η : HN) (T : Nat → Nat) (φ : FN) (pc : Nat) (i : Ins) (ys yo ym : AV) (s : Sm) (p : PD) (inn : List Nat) : Prop := ∀ φ' η', φ' 0 = φ 0 → φ' 1 = φ 1 → φ' 6 = φ 6 → φ' 7 = φ 7 → φ' 8 = .int .i64 (nextI i pc s) → RfAt η' T (doI p inn i s) ys yo ym → KpS T η η' → K .normal φ' η'
set_option maxHeartbeats 2000000 in
theorem rf_0 (U : Usual nat) {bd : Code} (hbd : findL 30 (fnB Try.f33) = some bd) {K : Kont} {η : HN} {T : Nat → Nat} {φ : FN} {mp pc ticks a b c : Nat} {yi ys yo ym : AV} {s : Sm} {z : PV} {p : PD} {inn : List Nat} (I : RfIn η T φ mp pc ticks ⟨0, a, b, c⟩ yi ys yo ym s z p inn) (hQ : RfOut K η T φ pc ⟨0, a, b, c⟩ ys yo ym s p inn) : wpN Try.prog (CallN Try.prog nat) pl33 bd K φ η := by
 obtain rfl : bd = _ := Option.some.inj (hbd.symm.trans rfl)
 obtain ⟨hp, hf, h, hi, hpc, hi0, ht, hS, hlt, hm, hmn, p0, p1, p6, p7, p8⟩ := I
 obtain ⟨hS, hO, hM, hI⟩ := hS
 obtain ⟨bc, offc, capc, roc, rowc, z6e, hbc, hbcn, hlc, hrc, getlt, g2, g3, g4, b1, b2, b3, b4, b5, b6⟩ := ins_facts hp hf hpc hi0 hlt
 have l6 := rdC_len9 hp.code (by omega)
 have hrc : _ = ([.int .i64 0, .int .i64 a, .int .i64 b, .int .i64 c] : List AV) := hrc
 rw [z6e] at hm l6
 have ht : (has p.slots a && has p.consts b) = true := ht
 have E : ExtB η.nx η ((η.new (.live false [.int .i64 0, .int .i64 0, .int .i64 0, .int .i64 0])).put η.nx (.live false [.int .i64 0, .int .i64 a, .int .i64 b, .int .i64 c])) := extP (extN (.refl _ _))
 obtain ⟨t1, t2⟩ := and_lt ht
 have u1 := has_lt t1
 have u2 := has_lt t2
 obtain ⟨bs, caps, rfl, hsn, hst, hsb⟩ := h.slots.at (i := a) (by omega)
 obtain ⟨bq, offq, capq, roq, rowq, zq, hbq, hbqn, hrq⟩ := hp.consts.at u2
 rw [zq] at hm
 simp -implicitDefEqProofs (disch := omega) only [go_sem, p0, p1, p6, p7, p8, l6, hm, hbc, hrc, hsb, hbq, hrq, not_le_f, false_implies, implies_true, true_and, and_true]
 rw [i64s_set]
 obtain ⟨q1, q2⟩ := h.slot E rfl hst hsn a (p.consts.getD b 0)
 rw [getD_get _ _ (by omega)] at q1 q2
 have hd : doI p inn ⟨0, a, b, c⟩ s = { s with slots := s.slots.set a (p.consts.getD b 0) } := rfl
 rw [getD_get _ _ (by omega)] at hd
 exact hQ _ _ rfl rfl rfl rfl rfl (by rw [hd]; exact q1) q2
set_option maxHeartbeats 2000000 in
theorem rf_1 (U : Usual nat) {bd : Code} (hbd : findL 30 (fnB Try.f33) = some bd) {K : Kont} {η : HN} {T : Nat → Nat} {φ : FN} {mp pc ticks a b c : Nat} {yi ys yo ym : AV} {s : Sm} {z : PV} {p : PD} {inn : List Nat} (I : RfIn η T φ mp pc ticks ⟨1, a, b, c⟩ yi ys yo ym s z p inn) (hQ : RfOut K η T φ pc ⟨1, a, b, c⟩ ys yo ym s p inn) : wpN Try.prog (CallN Try.prog nat) pl33 bd K φ η := by
 obtain rfl : bd = _ := Option.some.inj (hbd.symm.trans rfl)
 obtain ⟨hp, hf, h, hi, hpc, hi0, ht, hS, hlt, hm, hmn, p0, p1, p6, p7, p8⟩ := I
 obtain ⟨hS, hO, hM, hI⟩ := hS
 obtain ⟨bc, offc, capc, roc, rowc, z6e, hbc, hbcn, hlc, hrc, getlt, g2, g3, g4, b1, b2, b3, b4, b5, b6⟩ := ins_facts hp hf hpc hi0 hlt
 have l6 := rdC_len9 hp.code (by omega)
 have hrc : _ = ([.int .i64 1, .int .i64 a, .int .i64 b, .int .i64 c] : List AV) := hrc
 rw [z6e] at hm l6
 have ht : (has p.slots a && has p.slots b) = true := ht
 have E : ExtB η.nx η ((η.new (.live false [.int .i64 0, .int .i64 0, .int .i64 0, .int .i64 0])).put η.nx (.live false [.int .i64 1, .int .i64 a, .int .i64 b, .int .i64 c])) := extP (extN (.refl _ _))
 obtain ⟨t1, t2⟩ := and_lt ht
 have u1 := has_lt t1
 have u2 := has_lt t2
 obtain ⟨bs, caps, rfl, hsn, hst, hsb⟩ := h.slots.at (i := a) (by omega)
 have g1 := i64s_at (l := s.slots) (i := b) (by omega)
 have lb := getlt b
 simp -implicitDefEqProofs (disch := omega) only [go_sem, p0, p1, p6, p7, p8, l6, hm, hbc, hrc, hsb, g1, not_le_f, false_implies, implies_true, true_and, and_true]
 rw [i64s_set]
 obtain ⟨q1, q2⟩ := h.slot E rfl hst hsn a (s.slots.getD b 0)
 exact hQ _ _ rfl rfl rfl rfl rfl q1 q2
set_option maxHeartbeats 2000000 in
theorem rf_2 (U : Usual nat) {bd : Code} (hbd : findL 30 (fnB Try.f33) = some bd) {K : Kont} {η : HN} {T : Nat → Nat} {φ : FN} {mp pc ticks a b c : Nat} {yi ys yo ym : AV} {s : Sm} {z : PV} {p : PD} {inn : List Nat} (I : RfIn η T φ mp pc ticks ⟨2, a, b, c⟩ yi ys yo ym s z p inn) (hQ : RfOut K η T φ pc ⟨2, a, b, c⟩ ys yo ym s p inn) : wpN Try.prog (CallN Try.prog nat) pl33 bd K φ η := by
 obtain rfl : bd = _ := Option.some.inj (hbd.symm.trans rfl)
 obtain ⟨hp, hf, h, hi, hpc, hi0, ht, hS, hlt, hm, hmn, p0, p1, p6, p7, p8⟩ := I
 obtain ⟨hS, hO, hM, hI⟩ := hS
 obtain ⟨bc, offc, capc, roc, rowc, z6e, hbc, hbcn, hlc, hrc, getlt, g2, g3, g4, b1, b2, b3, b4, b5, b6⟩ := ins_facts hp hf hpc hi0 hlt
 have l6 := rdC_len9 hp.code (by omega)
 have hrc : _ = ([.int .i64 2, .int .i64 a, .int .i64 b, .int .i64 c] : List AV) := hrc
 rw [z6e] at hm l6
 have ht : (has p.slots a && has p.mems b) = true := ht
 have E : ExtB η.nx η ((η.new (.live false [.int .i64 0, .int .i64 0, .int .i64 0, .int .i64 0])).put η.nx (.live false [.int .i64 2, .int .i64 a, .int .i64 b, .int .i64 c])) := extP (extN (.refl _ _))
 obtain ⟨t1, t2⟩ := and_lt ht
 have u1 := has_lt t1
 have u2 := has_lt t2
 obtain ⟨bs, caps, rfl, hsn, hst, hsb⟩ := h.slots.at (i := a) (by omega)
 obtain ⟨bm, capm, rfl, hmn', hmt, hmb⟩ := h.mems.at (i := b) (by omega)
 have g1 := i64s_at (l := s.mems) (i := b) (by omega)
 simp -implicitDefEqProofs (disch := omega) only [go_sem, p0, p1, p6, p7, p8, l6, hm, hbc, hrc, hsb, hmb, g1, not_le_f, false_implies, implies_true, true_and, and_true]
 rw [i64s_set]
 obtain ⟨q1, q2⟩ := h.slot E rfl hst hsn a (s.mems.getD b 0)
 exact hQ _ _ rfl rfl rfl rfl rfl q1 q2
set_option maxHeartbeats 2000000 in
theorem rf_3 (U : Usual nat) {bd : Code} (hbd : findL 30 (fnB Try.f33) = some bd) {K : Kont} {η : HN} {T : Nat → Nat} {φ : FN} {mp pc ticks a b c : Nat} {yi ys yo ym : AV} {s : Sm} {z : PV} {p : PD} {inn : List Nat} (I : RfIn η T φ mp pc ticks ⟨3, a, b, c⟩ yi ys yo ym s z p inn) (hQ : RfOut K η T φ pc ⟨3, a, b, c⟩ ys yo ym s p inn) : wpN Try.prog (CallN Try.prog nat) pl33 bd K φ η := by
 obtain rfl : bd = _ := Option.some.inj (hbd.symm.trans rfl)
 obtain ⟨hp, hf, h, hi, hpc, hi0, ht, hS, hlt, hm, hmn, p0, p1, p6, p7, p8⟩ := I
 obtain ⟨hS, hO, hM, hI⟩ := hS
 obtain ⟨bc, offc, capc, roc, rowc, z6e, hbc, hbcn, hlc, hrc, getlt, g2, g3, g4, b1, b2, b3, b4, b5, b6⟩ := ins_facts hp hf hpc hi0 hlt
 have l6 := rdC_len9 hp.code (by omega)
 have hrc : _ = ([.int .i64 3, .int .i64 a, .int .i64 b, .int .i64 c] : List AV) := hrc
 rw [z6e] at hm l6
 have ht : (has p.mems a && has p.slots b) = true := ht
 have E : ExtB η.nx η ((η.new (.live false [.int .i64 0, .int .i64 0, .int .i64 0, .int .i64 0])).put η.nx (.live false [.int .i64 3, .int .i64 a, .int .i64 b, .int .i64 c])) := extP (extN (.refl _ _))
 obtain ⟨t1, t2⟩ := and_lt ht
 have u1 := has_lt t1
 have u2 := has_lt t2
 obtain ⟨bs, caps, rfl, hsn, hst, hsb⟩ := h.slots.at (i := b) (by omega)
 obtain ⟨bm, capm, rfl, hmn', hmt, hmb⟩ := h.mems.at (i := a) (by omega)
 have g1 := i64s_at (l := s.slots) (i := b) (by omega)
 simp -implicitDefEqProofs (disch := omega) only [go_sem, p0, p1, p6, p7, p8, l6, hm, hbc, hrc, hsb, hmb, g1, not_le_f, false_implies, implies_true, true_and, and_true]
 rw [i64s_set]
 obtain ⟨q1, q2⟩ := h.mem E rfl hmt hmn' a (s.slots.getD b 0)
 exact hQ _ _ rfl rfl rfl rfl rfl q1 q2
set_option maxHeartbeats 2000000 in
theorem rf_4 (U : Usual nat) {bd : Code} (hbd : findL 30 (fnB Try.f33) = some bd) {K : Kont} {η : HN} {T : Nat → Nat} {φ : FN} {mp pc ticks a b c : Nat} {yi ys yo ym : AV} {s : Sm} {z : PV} {p : PD} {inn : List Nat} (I : RfIn η T φ mp pc ticks ⟨4, a, b, c⟩ yi ys yo ym s z p inn) (hQ : RfOut K η T φ pc ⟨4, a, b, c⟩ ys yo ym s p inn) : wpN Try.prog (CallN Try.prog nat) pl33 bd K φ η := by
 obtain rfl : bd = _ := Option.some.inj (hbd.symm.trans rfl)
 obtain ⟨hp, hf, h, hi, hpc, hi0, ht, hS, hlt, hm, hmn, p0, p1, p6, p7, p8⟩ := I
 obtain ⟨hS, hO, hM, hI⟩ := hS
 obtain ⟨bc, offc, capc, roc, rowc, z6e, hbc, hbcn, hlc, hrc, getlt, g2, g3, g4, b1, b2, b3, b4, b5, b6⟩ := ins_facts hp hf hpc hi0 hlt
 have l6 := rdC_len9 hp.code (by omega)
 have hrc : _ = ([.int .i64 4, .int .i64 a, .int .i64 b, .int .i64 c] : List AV) := hrc
 rw [z6e] at hm l6
 have ht : (has p.slots a && has p.ins b) = true := ht
 have E : ExtB η.nx η ((η.new (.live false [.int .i64 0, .int .i64 0, .int .i64 0, .int .i64 0])).put η.nx (.live false [.int .i64 4, .int .i64 a, .int .i64 b, .int .i64 c])) := extP (extN (.refl _ _))
 obtain ⟨t1, t2⟩ := and_lt ht
 have u1 := has_lt t1
 have u2 := has_lt t2
 obtain ⟨bs, caps, rfl, hsn, hst, hsb⟩ := h.slots.at (i := a) (by omega)
 obtain ⟨bq, offq, capq, roq, rowq, zq, hbq, hbqn, hrq⟩ := hi.at (i := b) (by omega)
 subst zq
 simp -implicitDefEqProofs (disch := omega) only [go_sem, p0, p1, p6, p7, p8, l6, hm, hbc, hrc, hsb, hbq, hrq, not_le_f, false_implies, implies_true, true_and, and_true]
 rw [i64s_set]
 obtain ⟨q1, q2⟩ := h.slot E rfl hst hsn a (inn.getD b 0)
 rw [getD_get _ _ (by omega)] at q1 q2
 have hd : doI p inn ⟨4, a, b, c⟩ s = { s with slots := s.slots.set a (inn.getD b 0) } := rfl
 rw [getD_get _ _ (by omega)] at hd
 exact hQ _ _ rfl rfl rfl rfl rfl (by rw [hd]; exact q1) q2
set_option maxHeartbeats 2000000 in
theorem rf_5 (U : Usual nat) {bd : Code} (hbd : findL 30 (fnB Try.f33) = some bd) {K : Kont} {η : HN} {T : Nat → Nat} {φ : FN} {mp pc ticks a b c : Nat} {yi ys yo ym : AV} {s : Sm} {z : PV} {p : PD} {inn : List Nat} (I : RfIn η T φ mp pc ticks ⟨5, a, b, c⟩ yi ys yo ym s z p inn) (hQ : RfOut K η T φ pc ⟨5, a, b, c⟩ ys yo ym s p inn) : wpN Try.prog (CallN Try.prog nat) pl33 bd K φ η := by
 obtain rfl : bd = _ := Option.some.inj (hbd.symm.trans rfl)
 obtain ⟨hp, hf, h, hi, hpc, hi0, ht, hS, hlt, hm, hmn, p0, p1, p6, p7, p8⟩ := I
 obtain ⟨hS, hO, hM, hI⟩ := hS
 obtain ⟨bc, offc, capc, roc, rowc, z6e, hbc, hbcn, hlc, hrc, getlt, g2, g3, g4, b1, b2, b3, b4, b5, b6⟩ := ins_facts hp hf hpc hi0 hlt
 have l6 := rdC_len9 hp.code (by omega)
 have hrc : _ = ([.int .i64 5, .int .i64 a, .int .i64 b, .int .i64 c] : List AV) := hrc
 rw [z6e] at hm l6
 have ht : (has p.outs a && has p.slots b) = true := ht
 have E : ExtB η.nx η ((η.new (.live false [.int .i64 0, .int .i64 0, .int .i64 0, .int .i64 0])).put η.nx (.live false [.int .i64 5, .int .i64 a, .int .i64 b, .int .i64 c])) := extP (extN (.refl _ _))
 obtain ⟨t1, t2⟩ := and_lt ht
 have u1 := has_lt t1
 have u2 := has_lt t2
 obtain ⟨bs, caps, rfl, hsn, hst, hsb⟩ := h.slots.at (i := b) (by omega)
 obtain ⟨bm, capm, rfl, hmn', hmt, hmb⟩ := h.outs.at (i := a) (by omega)
 have g1 := i64s_at (l := s.slots) (i := b) (by omega)
 simp -implicitDefEqProofs (disch := omega) only [go_sem, p0, p1, p6, p7, p8, l6, hm, hbc, hrc, hsb, hmb, g1, not_le_f, false_implies, implies_true, true_and, and_true]
 rw [i64s_set]
 obtain ⟨q1, q2⟩ := h.out E rfl hmt hmn' a (s.slots.getD b 0)
 exact hQ _ _ rfl rfl rfl rfl rfl q1 q2
set_option maxHeartbeats 2000000 in
theorem rf_6 (U : Usual nat) {bd : Code} (hbd : findL 30 (fnB Try.f33) = some bd) {K : Kont} {η : HN} {T : Nat → Nat} {φ : FN} {mp pc ticks a b c : Nat} {yi ys yo ym : AV} {s : Sm} {z : PV} {p : PD} {inn : List Nat} (I : RfIn η T φ mp pc ticks ⟨6, a, b, c⟩ yi ys yo ym s z p inn) (hQ : RfOut K η T φ pc ⟨6, a, b, c⟩ ys yo ym s p inn) : wpN Try.prog (CallN Try.prog nat) pl33 bd K φ η := by
 obtain rfl : bd = _ := Option.some.inj (hbd.symm.trans rfl)
 obtain ⟨hp, hf, h, hi, hpc, hi0, ht, hS, hlt, hm, hmn, p0, p1, p6, p7, p8⟩ := I
 obtain ⟨hS, hO, hM, hI⟩ := hS
 obtain ⟨bc, offc, capc, roc, rowc, z6e, hbc, hbcn, hlc, hrc, getlt, g2, g3, g4, b1, b2, b3, b4, b5, b6⟩ := ins_facts hp hf hpc hi0 hlt
 have l6 := rdC_len9 hp.code (by omega)
 have hrc : _ = ([.int .i64 6, .int .i64 a, .int .i64 b, .int .i64 c] : List AV) := hrc
 rw [z6e] at hm l6
 have ht : (has p.slots a && has p.slots b) = true := ht
 have E : ExtB η.nx η ((η.new (.live false [.int .i64 0, .int .i64 0, .int .i64 0, .int .i64 0])).put η.nx (.live false [.int .i64 6, .int .i64 a, .int .i64 b, .int .i64 c])) := extP (extN (.refl _ _))
 obtain ⟨t1, t2⟩ := and_lt ht
 have u1 := has_lt t1
 have u2 := has_lt t2
 obtain ⟨bs, caps, rfl, hsn, hst, hsb⟩ := h.slots.at (i := a) (by omega)
 have g1 := i64s_at (l := s.slots) (i := b) (by omega)
 have lb := getlt b
 simp -implicitDefEqProofs (disch := omega) only [go_sem, p0, p1, p6, p7, p8, l6, hm, hbc, hrc, hsb, g1, not_le_f, false_implies, implies_true, true_and, and_true]
 refine dE_call (ops62_then U (by decide) fun η3 E3 => ?_)
 have g3' := E3.1
 simp only [at_nx] at g3'
 have hsb3 : η3.f bs = _ := (E3.2 bs (by simp only [at_nx]; omega)).trans (by simp -implicitDefEqProofs (disch := omega) only [go_sem]; exact hsb)
 have hl3 : η3.f η.nx = .live false [.int .i64 6, .int .i64 a, .int .i64 b, .int .i64 c] := (E3.2 η.nx (by simp only [at_nx]; omega)).trans (by simp -implicitDefEqProofs (disch := omega) only [go_sem])
 simp -implicitDefEqProofs (disch := omega) only [go_sem, p0, p1, p6, p7, p8, l6, hm, hbc, hrc, hsb, g1, hsb3, hl3, not_le_f, false_implies, implies_true, true_and, and_true]
 refine dE_call (refop6_then U (RdR.blk [[.int .i64 (s.slots.getD b 0)]] (ro := false) ?_ ?_ (by simp)) ?_)
 ·simp -implicitDefEqProofs (disch := omega) only [go_sem]; rfl
 ·simp only [go_sem]; omega
 simp -implicitDefEqProofs (disch := omega) only [go_sem, p0, p1, p6, p7, p8, l6, hm, hbc, hrc, hsb, g1, hsb3, hl3, not_le_f, false_implies, implies_true, true_and, and_true]
 have key : ∀ (H : HN) (φ' : FN), ExtB η.nx η H → φ' 0 = φ 0 → φ' 1 = φ 1 → φ' 6 = φ 6 → φ' 7 = φ 7 → φ' 8 = .int .i64 (pc + 1) → K .normal φ' (H.put bs (.live false (i64s (s.slots.set a ((1 + (18446744073709551616 - s.slots.getD b 0)) % 18446744073709551616))))) := fun H φ' E' z0 z1 z6 z7 z8 => by
  obtain ⟨q1, q2⟩ := h.slot E' rfl hst hsn a ((1 + (18446744073709551616 - s.slots.getD b 0)) % 18446744073709551616)
  exact hQ _ _ z0 z1 z6 z7 z8 q1 q2
 rw [i64s_set]
 refine key _ _ ⟨by simp only [at_nx]; omega, fun q hq => ?_⟩ rfl rfl rfl rfl rfl
 have e1 := E3.2 q (by simp only [at_nx]; omega)
 simp -implicitDefEqProofs (disch := omega) only [go_sem] at e1 ⊢
 exact e1
set_option maxHeartbeats 2000000 in
theorem rf_7 (U : Usual nat) {bd : Code} (hbd : findL 30 (fnB Try.f33) = some bd) {K : Kont} {η : HN} {T : Nat → Nat} {φ : FN} {mp pc ticks a b c : Nat} {yi ys yo ym : AV} {s : Sm} {z : PV} {p : PD} {inn : List Nat} (I : RfIn η T φ mp pc ticks ⟨7, a, b, c⟩ yi ys yo ym s z p inn) (hQ : RfOut K η T φ pc ⟨7, a, b, c⟩ ys yo ym s p inn) : wpN Try.prog (CallN Try.prog nat) pl33 bd K φ η := by
 obtain rfl : bd = _ := Option.some.inj (hbd.symm.trans rfl)
 obtain ⟨hp, hf, h, hi, hpc, hi0, ht, hS, hlt, hm, hmn, p0, p1, p6, p7, p8⟩ := I
 obtain ⟨hS, hO, hM, hI⟩ := hS
 obtain ⟨bc, offc, capc, roc, rowc, z6e, hbc, hbcn, hlc, hrc, getlt, g2, g3, g4, b1, b2, b3, b4, b5, b6⟩ := ins_facts hp hf hpc hi0 hlt
 have l6 := rdC_len9 hp.code (by omega)
 have hrc : _ = ([.int .i64 7, .int .i64 a, .int .i64 b, .int .i64 c] : List AV) := hrc
 rw [z6e] at hm l6
 have ht : (has p.slots a && has p.slots b) = true := ht
 have E : ExtB η.nx η ((η.new (.live false [.int .i64 0, .int .i64 0, .int .i64 0, .int .i64 0])).put η.nx (.live false [.int .i64 7, .int .i64 a, .int .i64 b, .int .i64 c])) := extP (extN (.refl _ _))
 obtain ⟨t1, t2⟩ := and_lt ht
 have u1 := has_lt t1
 have u2 := has_lt t2
 obtain ⟨bs, caps, rfl, hsn, hst, hsb⟩ := h.slots.at (i := a) (by omega)
 have g1 := i64s_at (l := s.slots) (i := b) (by omega)
 have lb := getlt b
 simp -implicitDefEqProofs (disch := omega) only [go_sem, p0, p1, p6, p7, p8, l6, hm, hbc, hrc, hsb, g1, not_le_f, false_implies, implies_true, true_and, and_true]
 refine dE_call (ops62_then U (by decide) fun η3 E3 => ?_)
 have g3' := E3.1
 simp only [at_nx] at g3'
 have hsb3 : η3.f bs = _ := (E3.2 bs (by simp only [at_nx]; omega)).trans (by simp -implicitDefEqProofs (disch := omega) only [go_sem]; exact hsb)
 have hl3 : η3.f η.nx = .live false [.int .i64 7, .int .i64 a, .int .i64 b, .int .i64 c] := (E3.2 η.nx (by simp only [at_nx]; omega)).trans (by simp -implicitDefEqProofs (disch := omega) only [go_sem])
 simp -implicitDefEqProofs (disch := omega) only [go_sem, p0, p1, p6, p7, p8, l6, hm, hbc, hrc, hsb, g1, hsb3, hl3, not_le_f, false_implies, implies_true, true_and, and_true]
 refine dE_call (refop7_then U (RdR.blk [[.int .i64 (s.slots.getD b 0)]] (ro := false) ?_ ?_ (by simp)) ?_)
 ·simp -implicitDefEqProofs (disch := omega) only [go_sem]; rfl
 ·simp only [go_sem]; omega
 simp -implicitDefEqProofs (disch := omega) only [go_sem, p0, p1, p6, p7, p8, l6, hm, hbc, hrc, hsb, g1, hsb3, hl3, not_le_f, false_implies, implies_true, true_and, and_true]
 have key : ∀ (H : HN) (φ' : FN), ExtB η.nx η H → φ' 0 = φ 0 → φ' 1 = φ 1 → φ' 6 = φ 6 → φ' 7 = φ 7 → φ' 8 = .int .i64 (pc + 1) → K .normal φ' (H.put bs (.live false (i64s (s.slots.set a ((18446744073709551616 - s.slots.getD b 0) % 18446744073709551616))))) := fun H φ' E' z0 z1 z6 z7 z8 => by
  obtain ⟨q1, q2⟩ := h.slot E' rfl hst hsn a ((18446744073709551616 - s.slots.getD b 0) % 18446744073709551616)
  exact hQ _ _ z0 z1 z6 z7 z8 q1 q2
 rw [i64s_set]
 refine key _ _ ⟨by simp only [at_nx]; omega, fun q hq => ?_⟩ rfl rfl rfl rfl rfl
 have e1 := E3.2 q (by simp only [at_nx]; omega)
 simp -implicitDefEqProofs (disch := omega) only [go_sem] at e1 ⊢
 exact e1
set_option maxHeartbeats 2000000 in
theorem rf_19 (U : Usual nat) {bd : Code} (hbd : findL 30 (fnB Try.f33) = some bd) {K : Kont} {η : HN} {T : Nat → Nat} {φ : FN} {mp pc ticks a b c : Nat} {yi ys yo ym : AV} {s : Sm} {z : PV} {p : PD} {inn : List Nat} (I : RfIn η T φ mp pc ticks ⟨19, a, b, c⟩ yi ys yo ym s z p inn) (hQ : RfOut K η T φ pc ⟨19, a, b, c⟩ ys yo ym s p inn) : wpN Try.prog (CallN Try.prog nat) pl33 bd K φ η := by
 obtain rfl : bd = _ := Option.some.inj (hbd.symm.trans rfl)
 obtain ⟨hp, hf, h, hi, hpc, hi0, ht, hS, hlt, hm, hmn, p0, p1, p6, p7, p8⟩ := I
 obtain ⟨hS, hO, hM, hI⟩ := hS
 obtain ⟨bc, offc, capc, roc, rowc, z6e, hbc, hbcn, hlc, hrc, getlt, g2, g3, g4, b1, b2, b3, b4, b5, b6⟩ := ins_facts hp hf hpc hi0 hlt
 have l6 := rdC_len9 hp.code (by omega)
 have hrc : _ = ([.int .i64 19, .int .i64 a, .int .i64 b, .int .i64 c] : List AV) := hrc
 rw [z6e] at hm l6
 have ht : (targetF p pc a && has p.slots b) = true := ht
 have E : ExtB η.nx η ((η.new (.live false [.int .i64 0, .int .i64 0, .int .i64 0, .int .i64 0])).put η.nx (.live false [.int .i64 19, .int .i64 a, .int .i64 b, .int .i64 c])) := extP (extN (.refl _ _))
 have t2 := (and_lt ht).2
 have u2 := has_lt t2
 obtain ⟨bs, caps, rfl, hsn, hst, hsb⟩ := h.slots.at (i := b) (by omega)
 have g1 := i64s_at (l := s.slots) (i := b) (by omega)
 obtain ⟨q1, q2⟩ := h.same E
 by_cases h0 : s.slots.getD b 0 = 0
 ·have e : nextI ⟨19, a, b, c⟩ pc s = a := by unfold nextI; rw [if_pos rfl, if_pos h0]
  simp -implicitDefEqProofs (disch := omega) only [go_sem, p0, p1, p6, p7, p8, l6, hm, hbc, hrc, hsb, g1, not_le_f, false_implies, implies_true, true_and, and_true]
  exact hQ _ _ rfl rfl rfl rfl (by rw [e]; rfl) q1 q2
 ·have e : nextI ⟨19, a, b, c⟩ pc s = pc + 1 := by unfold nextI; rw [if_pos rfl, if_neg h0]
  simp -implicitDefEqProofs (disch := omega) only [go_sem, p0, p1, p6, p7, p8, l6, hm, hbc, hrc, hsb, g1, not_le_f, false_implies, implies_true, true_and, and_true]
  exact hQ _ _ rfl rfl rfl rfl (by rw [e]; rfl) q1 q2
set_option maxHeartbeats 2000000 in
theorem rf_20 (U : Usual nat) {bd : Code} (hbd : findL 30 (fnB Try.f33) = some bd) {K : Kont} {η : HN} {T : Nat → Nat} {φ : FN} {mp pc ticks a b c : Nat} {yi ys yo ym : AV} {s : Sm} {z : PV} {p : PD} {inn : List Nat} (I : RfIn η T φ mp pc ticks ⟨20, a, b, c⟩ yi ys yo ym s z p inn) (hQ : RfOut K η T φ pc ⟨20, a, b, c⟩ ys yo ym s p inn) : wpN Try.prog (CallN Try.prog nat) pl33 bd K φ η := by
 obtain rfl : bd = _ := Option.some.inj (hbd.symm.trans rfl)
 obtain ⟨hp, hf, h, hi, hpc, hi0, ht, hS, hlt, hm, hmn, p0, p1, p6, p7, p8⟩ := I
 obtain ⟨hS, hO, hM, hI⟩ := hS
 obtain ⟨bc, offc, capc, roc, rowc, z6e, hbc, hbcn, hlc, hrc, getlt, g2, g3, g4, b1, b2, b3, b4, b5, b6⟩ := ins_facts hp hf hpc hi0 hlt
 have l6 := rdC_len9 hp.code (by omega)
 have hrc : _ = ([.int .i64 20, .int .i64 a, .int .i64 b, .int .i64 c] : List AV) := hrc
 rw [z6e] at hm l6
 have ht : (targetF p pc a) = true := ht
 have E : ExtB η.nx η ((η.new (.live false [.int .i64 0, .int .i64 0, .int .i64 0, .int .i64 0])).put η.nx (.live false [.int .i64 20, .int .i64 a, .int .i64 b, .int .i64 c])) := extP (extN (.refl _ _))
 simp -implicitDefEqProofs (disch := omega) only [go_sem, p0, p1, p6, p7, p8, l6, hm, hbc, hrc, not_le_f, false_implies, implies_true, true_and, and_true]
 obtain ⟨q1, q2⟩ := h.same E
 exact hQ _ _ rfl rfl rfl rfl rfl q1 q2
end Go.Proofs.Ytjljolnhmmbkoaa
namespace Go.Proofs.Ytjljolnhmmbkoaa
open Go.Eng Go.Plain
set_option autoImplicit false
set_option maxRecDepth 100000
variable {nat : ∀ [Deep], Nats}
set_option maxHeartbeats 2000000 in
theorem rf_ops (U : Usual nat) {bd : Code} (hbd : findL 30 (fnB Try.f33) = some bd) {K : Kont} {η : HN} {T : Nat → Nat} {φ : FN} {mp pc ticks op a b c : Nat} {yi ys yo ym : AV} {s : Sm} {z : PV} {p : PD} {inn : List Nat} (hop : 8 ≤ op ∧ op ≤ 18) (I : RfIn η T φ mp pc ticks ⟨op, a, b, c⟩ yi ys yo ym s z p inn) (hr : refF op (s.slots.getD b 0) (s.slots.getD c 0) = opF op (s.slots.getD b 0) (s.slots.getD c 0)) (hQ : RfOut K η T φ pc ⟨op, a, b, c⟩ ys yo ym s p inn) : wpN Try.prog (CallN Try.prog nat) pl33 bd K φ η := by
 obtain rfl : bd = _ := Option.some.inj (hbd.symm.trans rfl)
 obtain ⟨hp, hf, h, hi, hpc, hi0, ht, hS, hlt, hm, hmn, p0, p1, p6, p7, p8⟩ := I
 obtain ⟨hS, hO, hM, hI⟩ := hS
 obtain ⟨bc, offc, capc, roc, rowc, z6e, hbc, hbcn, hlc, hrc, getlt, g2, g3, g4, b1, b2, b3, b4, b5, b6⟩ := ins_facts hp hf hpc hi0 hlt
 have l6 := rdC_len9 hp.code (by omega)
 have hrc : _ = ([.int .i64 op, .int .i64 a, .int .i64 b, .int .i64 c] : List AV) := hrc
 rw [z6e] at hm l6
 have E : ExtB η.nx η ((η.new (.live false [.int .i64 0, .int .i64 0, .int .i64 0, .int .i64 0])).put η.nx (.live false [.int .i64 op, .int .i64 a, .int .i64 b, .int .i64 c])) := extP (extN (.refl _ _))
 have ht := ops_there hop ht
 obtain ⟨t1, ht⟩ := and_lt ht
 obtain ⟨t2, t3⟩ := and_lt ht
 have u1 := has_lt t1
 have u2 := has_lt t2
 have u3 := has_lt t3
 obtain ⟨bs, caps, rfl, hsn, hst, hsb⟩ := h.slots.at (i := a) (by omega)
 have g1 := i64s_at (l := s.slots) (i := b) (by omega)
 have g5 := i64s_at (l := s.slots) (i := c) (by omega)
 simp -implicitDefEqProofs (disch := omega) only [go_sem, p0, p1, p6, p7, p8, l6, hm, hbc, hrc, hsb, g1, g5, not_le_f, false_implies, implies_true, true_and, and_true]
 refine dE_call (ops62_then U (by omega) fun η3 E3 => ?_)
 have g3' := E3.1
 simp only [at_nx] at g3'
 have hsb3 : η3.f bs = _ := (E3.2 bs (by simp only [at_nx]; omega)).trans (by simp -implicitDefEqProofs (disch := omega) only [go_sem]; exact hsb)
 have hl3 : η3.f η.nx = .live false [.int .i64 op, .int .i64 a, .int .i64 b, .int .i64 c] := (E3.2 η.nx (by simp only [at_nx]; omega)).trans (by simp -implicitDefEqProofs (disch := omega) only [go_sem])
 simp -implicitDefEqProofs (disch := omega) only [go_sem, p0, p1, p6, p7, p8, l6, hm, hbc, hrc, hsb, g1, g5, hsb3, hl3, not_le_f, false_implies, implies_true, true_and, and_true]
 refine dE_call ⟨_, _, refop_call U (op := op) hop (getlt b) (getlt c) (RdR.blk [[.int .i64 (s.slots.getD b 0)], [.int .i64 (s.slots.getD c 0)]] (ro := false) ?_ ?_ (by simp)), ?_⟩
 ·simp -implicitDefEqProofs (disch := omega) only [go_sem]; rfl
 ·simp only [go_sem]; omega
 rw [hr]
 simp -implicitDefEqProofs (disch := omega) only [go_sem, p0, p1, p6, p7, p8, l6, hm, hbc, hrc, hsb, g1, g5, hsb3, hl3, not_le_f, false_implies, implies_true, true_and, and_true]
 have key : ∀ (H : HN) (φ' : FN), ExtB η.nx η H → φ' 0 = φ 0 → φ' 1 = φ 1 → φ' 6 = φ 6 → φ' 7 = φ 7 → φ' 8 = .int .i64 (pc + 1) → K .normal φ' (H.put bs (.live false (i64s (s.slots.set a (opF op (s.slots.getD b 0) (s.slots.getD c 0)))))) := fun H φ' E' z0 z1 z6 z7 z8 => by
  obtain ⟨q1, q2⟩ := h.slot E' rfl hst hsn a (opF op (s.slots.getD b 0) (s.slots.getD c 0))
  unfold RfOut at hQ
  rw [ops_do hop, ops_next hop] at hQ
  exact hQ _ _ z0 z1 z6 z7 z8 q1 q2
 rw [i64s_set]
 refine key _ _ ⟨by simp only [at_nx]; omega, fun q hq => ?_⟩ rfl rfl rfl rfl rfl
 have e1 := E3.2 q (by simp only [at_nx]; omega)
 simp -implicitDefEqProofs (disch := omega) only [go_sem] at e1 ⊢
 exact e1
end Go.Proofs.Ytjljolnhmmbkoaa
