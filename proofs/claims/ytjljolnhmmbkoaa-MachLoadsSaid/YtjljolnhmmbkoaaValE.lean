/- What is proved: the document's own third rule is the program's, instruction by instruction. the document's own third rule is the program's, instruction by instruction. Conditions: as each theorem says. -/
import Derived.Test.YtjljolnhmmbkoaaValD
set_option linter.unusedVariables false
set_option linter.unusedSimpArgs false
set_option linter.unusedSectionVars false
namespace Go.Proofs.Ytjljolnhmmbkoaa
open Go.Eng Go.Plain
set_option autoImplicit false
set_option maxRecDepth 100000
variable {nat : ∀ [Deep], Nats}
set_option maxHeartbeats 4000000 in
theorem fits_0 (U : Usual nat) {η : HN} {z : PV} {p : PD} {pc a b c : Nat} {Q : AV → HN → Prop} (hp : IsP η z p) (hf : Fine p) (ht : thereF p pc ⟨0, a, b, c⟩ = true) (h : ∀ η', ExtB η.nx η η' → Q (.bool (kindsF p ⟨0, a, b, c⟩)) η') : ∃ v η', CallN Try.prog nat 47 [.agg z.cells, .agg (Ins.cells ⟨0, a, b, c⟩)] η v η' ∧ Q v η' := by
 refine call_of (PT := pl47) Try.func47 rfl (U 47 (by decide)) ok47 rfl ?_
 have h1 := hf.ins.1
 have h2 := hf.outs.1
 have h3 := hf.slots.1
 have h4 := hf.mems.1
 have h5 := hf.consts.1
 have hcs : Ins.cells ⟨0, a, b, c⟩ = [.int .i64 0, .int .i64 a, .int .i64 b, .int .i64 c] := rfl
 have E : ExtB η.nx η ((η.new (.live false [z.z1, z.z2, z.z3, z.z4, z.z5, z.z6])).new (.live false [.int .i64 0, .int .i64 a, .int .i64 b, .int .i64 c])) := extN (extN (.refl _ _))
 have hb : ((η.new (.live false [z.z1, z.z2, z.z3, z.z4, z.z5, z.z6])).new (.live false [.int .i64 0, .int .i64 a, .int .i64 b, .int .i64 c])).f η.nx = .live false z.cells := by show (if η.nx = η.nx + 1 then _ else if η.nx = η.nx then _ else _) = _; rw [if_neg (by omega), if_pos rfl]
 have hb2 : ((η.new (.live false [z.z1, z.z2, z.z3, z.z4, z.z5, z.z6])).new (.live false [.int .i64 0, .int .i64 a, .int .i64 b, .int .i64 c])).f (η.nx + 1) = .live false [.int .i64 0, .int .i64 a, .int .i64 b, .int .i64 c] := by show (if η.nx + 1 = η.nx + 1 then _ else _) = _; rw [if_pos rfl]
 have hq := hp.ext E
 have ht : (has p.slots a && has p.consts b) = true := ht
 have key : ∀ {v : Bool}, (isF p 2 a || (decide (p.consts.getD b 0 = 0) || decide (p.consts.getD b 0 = 1))) = v → Q (.bool v) ((η.new (.live false [z.z1, z.z2, z.z3, z.z4, z.z5, z.z6])).new (.live false [.int .i64 0, .int .i64 a, .int .i64 b, .int .i64 c])) := fun e => by rw [← e]; exact h _ E
 unfold isF at key
 clear h
 simp -implicitDefEqProofs (disch := omega) only [go_sem, hcs]
 generalize ((η.new (.live false [z.z1, z.z2, z.z3, z.z4, z.z5, z.z6])).new (.live false [.int .i64 0, .int .i64 a, .int .i64 b, .int .i64 c])) = η1 at *
 obtain ⟨t1, t2⟩ := and_lt ht
 have ua := has_lt t1
 have ub := has_lt t2
 obtain ⟨b1, off1, cap1, ro1, row1, z1, hb1, hn1, hra⟩ := hq.slots.at (has_lt t1)
 obtain ⟨b2, off2, cap2, ro2, row2, z2, hb2', hn2, hrb⟩ := hq.consts.at (has_lt t2)
 rw [getD_get _ _ ua, getD_get _ _ ub] at key
 by_cases va : p.slots[a] = 2
 ·simp -implicitDefEqProofs (disch := omega) only [go_sem, hb, hb2, z1, z2, hb1, hb2', hra, hrb, Bool.not_true, Bool.not_false]
  exact key (by simp [va])
 by_cases y0 : p.consts[b] = 0
 ·simp -implicitDefEqProofs (disch := omega) only [go_sem, hb, hb2, z1, z2, hb1, hb2', hra, hrb, Bool.not_true, Bool.not_false]
  exact key (by simp [y0])
 by_cases y1 : p.consts[b] = 1
 ·simp -implicitDefEqProofs (disch := omega) only [go_sem, hb, hb2, z1, z2, hb1, hb2', hra, hrb, Bool.not_true, Bool.not_false]
  exact key (by simp [y1])
 simp -implicitDefEqProofs (disch := omega) only [go_sem, hb, hb2, z1, z2, hb1, hb2', hra, hrb, Bool.not_true, Bool.not_false]
 exact key (by simp [va, y0, y1])
set_option maxHeartbeats 4000000 in
theorem fits_1 (U : Usual nat) {η : HN} {z : PV} {p : PD} {pc a b c : Nat} {Q : AV → HN → Prop} (hp : IsP η z p) (hf : Fine p) (ht : thereF p pc ⟨1, a, b, c⟩ = true) (h : ∀ η', ExtB η.nx η η' → Q (.bool (kindsF p ⟨1, a, b, c⟩)) η') : ∃ v η', CallN Try.prog nat 47 [.agg z.cells, .agg (Ins.cells ⟨1, a, b, c⟩)] η v η' ∧ Q v η' := by
 refine call_of (PT := pl47) Try.func47 rfl (U 47 (by decide)) ok47 rfl ?_
 have h1 := hf.ins.1
 have h2 := hf.outs.1
 have h3 := hf.slots.1
 have h4 := hf.mems.1
 have h5 := hf.consts.1
 have hcs : Ins.cells ⟨1, a, b, c⟩ = [.int .i64 1, .int .i64 a, .int .i64 b, .int .i64 c] := rfl
 have E : ExtB η.nx η ((η.new (.live false [z.z1, z.z2, z.z3, z.z4, z.z5, z.z6])).new (.live false [.int .i64 1, .int .i64 a, .int .i64 b, .int .i64 c])) := extN (extN (.refl _ _))
 have hb : ((η.new (.live false [z.z1, z.z2, z.z3, z.z4, z.z5, z.z6])).new (.live false [.int .i64 1, .int .i64 a, .int .i64 b, .int .i64 c])).f η.nx = .live false z.cells := by show (if η.nx = η.nx + 1 then _ else if η.nx = η.nx then _ else _) = _; rw [if_neg (by omega), if_pos rfl]
 have hb2 : ((η.new (.live false [z.z1, z.z2, z.z3, z.z4, z.z5, z.z6])).new (.live false [.int .i64 1, .int .i64 a, .int .i64 b, .int .i64 c])).f (η.nx + 1) = .live false [.int .i64 1, .int .i64 a, .int .i64 b, .int .i64 c] := by show (if η.nx + 1 = η.nx + 1 then _ else _) = _; rw [if_pos rfl]
 have hq := hp.ext E
 have ht : (has p.slots a && has p.slots b) = true := ht
 have key : ∀ {v : Bool}, (decide (p.slots.getD a 0 = p.slots.getD b 0)) = v → Q (.bool v) ((η.new (.live false [z.z1, z.z2, z.z3, z.z4, z.z5, z.z6])).new (.live false [.int .i64 1, .int .i64 a, .int .i64 b, .int .i64 c])) := fun e => by rw [← e]; exact h _ E
 unfold isF at key
 clear h
 simp -implicitDefEqProofs (disch := omega) only [go_sem, hcs]
 generalize ((η.new (.live false [z.z1, z.z2, z.z3, z.z4, z.z5, z.z6])).new (.live false [.int .i64 1, .int .i64 a, .int .i64 b, .int .i64 c])) = η1 at *
 obtain ⟨t1, t2⟩ := and_lt ht
 have u1 := has_lt t1
 have u2 := has_lt t2
 obtain ⟨b1, off1, cap1, ro1, row1, z1, hb1, hn1, hr1⟩ := hq.slots.at (has_lt t1)
 obtain ⟨b2, off2, cap2, ro2, row2, z2, hb2', hn2, hr2⟩ := hq.slots.at (has_lt t2)
 rw [z1] at z2
 cases z2
 rw [hb1] at hb2'
 cases hb2'
 rw [getD_get _ _ u1, getD_get _ _ u2] at key
 simp -implicitDefEqProofs (disch := omega) only [go_sem, hb, hb2, z1, hb1, hr1, hr2, Bool.not_true, Bool.not_false]
 exact key rfl
set_option maxHeartbeats 4000000 in
theorem fits_2 (U : Usual nat) {η : HN} {z : PV} {p : PD} {pc a b c : Nat} {Q : AV → HN → Prop} (hp : IsP η z p) (hf : Fine p) (ht : thereF p pc ⟨2, a, b, c⟩ = true) (h : ∀ η', ExtB η.nx η η' → Q (.bool (kindsF p ⟨2, a, b, c⟩)) η') : ∃ v η', CallN Try.prog nat 47 [.agg z.cells, .agg (Ins.cells ⟨2, a, b, c⟩)] η v η' ∧ Q v η' := by
 refine call_of (PT := pl47) Try.func47 rfl (U 47 (by decide)) ok47 rfl ?_
 have h1 := hf.ins.1
 have h2 := hf.outs.1
 have h3 := hf.slots.1
 have h4 := hf.mems.1
 have h5 := hf.consts.1
 have hcs : Ins.cells ⟨2, a, b, c⟩ = [.int .i64 2, .int .i64 a, .int .i64 b, .int .i64 c] := rfl
 have E : ExtB η.nx η ((η.new (.live false [z.z1, z.z2, z.z3, z.z4, z.z5, z.z6])).new (.live false [.int .i64 2, .int .i64 a, .int .i64 b, .int .i64 c])) := extN (extN (.refl _ _))
 have hb : ((η.new (.live false [z.z1, z.z2, z.z3, z.z4, z.z5, z.z6])).new (.live false [.int .i64 2, .int .i64 a, .int .i64 b, .int .i64 c])).f η.nx = .live false z.cells := by show (if η.nx = η.nx + 1 then _ else if η.nx = η.nx then _ else _) = _; rw [if_neg (by omega), if_pos rfl]
 have hb2 : ((η.new (.live false [z.z1, z.z2, z.z3, z.z4, z.z5, z.z6])).new (.live false [.int .i64 2, .int .i64 a, .int .i64 b, .int .i64 c])).f (η.nx + 1) = .live false [.int .i64 2, .int .i64 a, .int .i64 b, .int .i64 c] := by show (if η.nx + 1 = η.nx + 1 then _ else _) = _; rw [if_pos rfl]
 have hq := hp.ext E
 have ht : (has p.slots a && has p.mems b) = true := ht
 have key : ∀ {v : Bool}, (decide (p.slots.getD a 0 = p.mems.getD b 0)) = v → Q (.bool v) ((η.new (.live false [z.z1, z.z2, z.z3, z.z4, z.z5, z.z6])).new (.live false [.int .i64 2, .int .i64 a, .int .i64 b, .int .i64 c])) := fun e => by rw [← e]; exact h _ E
 unfold isF at key
 clear h
 simp -implicitDefEqProofs (disch := omega) only [go_sem, hcs]
 generalize ((η.new (.live false [z.z1, z.z2, z.z3, z.z4, z.z5, z.z6])).new (.live false [.int .i64 2, .int .i64 a, .int .i64 b, .int .i64 c])) = η1 at *
 obtain ⟨t1, t2⟩ := and_lt ht
 have u1 := has_lt t1
 have u2 := has_lt t2
 obtain ⟨b1, off1, cap1, ro1, row1, z1, hb1, hn1, hr1⟩ := hq.slots.at (has_lt t1)
 obtain ⟨b2, off2, cap2, ro2, row2, z2, hb2', hn2, hr2⟩ := hq.mems.at (has_lt t2)
 rw [getD_get _ _ u1, getD_get _ _ u2] at key
 simp -implicitDefEqProofs (disch := omega) only [go_sem, hb, hb2, z1, z2, hb1, hb2', hr1, hr2, Bool.not_true, Bool.not_false]
 exact key rfl
set_option maxHeartbeats 4000000 in
theorem fits_3 (U : Usual nat) {η : HN} {z : PV} {p : PD} {pc a b c : Nat} {Q : AV → HN → Prop} (hp : IsP η z p) (hf : Fine p) (ht : thereF p pc ⟨3, a, b, c⟩ = true) (h : ∀ η', ExtB η.nx η η' → Q (.bool (kindsF p ⟨3, a, b, c⟩)) η') : ∃ v η', CallN Try.prog nat 47 [.agg z.cells, .agg (Ins.cells ⟨3, a, b, c⟩)] η v η' ∧ Q v η' := by
 refine call_of (PT := pl47) Try.func47 rfl (U 47 (by decide)) ok47 rfl ?_
 have h1 := hf.ins.1
 have h2 := hf.outs.1
 have h3 := hf.slots.1
 have h4 := hf.mems.1
 have h5 := hf.consts.1
 have hcs : Ins.cells ⟨3, a, b, c⟩ = [.int .i64 3, .int .i64 a, .int .i64 b, .int .i64 c] := rfl
 have E : ExtB η.nx η ((η.new (.live false [z.z1, z.z2, z.z3, z.z4, z.z5, z.z6])).new (.live false [.int .i64 3, .int .i64 a, .int .i64 b, .int .i64 c])) := extN (extN (.refl _ _))
 have hb : ((η.new (.live false [z.z1, z.z2, z.z3, z.z4, z.z5, z.z6])).new (.live false [.int .i64 3, .int .i64 a, .int .i64 b, .int .i64 c])).f η.nx = .live false z.cells := by show (if η.nx = η.nx + 1 then _ else if η.nx = η.nx then _ else _) = _; rw [if_neg (by omega), if_pos rfl]
 have hb2 : ((η.new (.live false [z.z1, z.z2, z.z3, z.z4, z.z5, z.z6])).new (.live false [.int .i64 3, .int .i64 a, .int .i64 b, .int .i64 c])).f (η.nx + 1) = .live false [.int .i64 3, .int .i64 a, .int .i64 b, .int .i64 c] := by show (if η.nx + 1 = η.nx + 1 then _ else _) = _; rw [if_pos rfl]
 have hq := hp.ext E
 have ht : (has p.mems a && has p.slots b) = true := ht
 have key : ∀ {v : Bool}, (decide (p.mems.getD a 0 = p.slots.getD b 0)) = v → Q (.bool v) ((η.new (.live false [z.z1, z.z2, z.z3, z.z4, z.z5, z.z6])).new (.live false [.int .i64 3, .int .i64 a, .int .i64 b, .int .i64 c])) := fun e => by rw [← e]; exact h _ E
 unfold isF at key
 clear h
 simp -implicitDefEqProofs (disch := omega) only [go_sem, hcs]
 generalize ((η.new (.live false [z.z1, z.z2, z.z3, z.z4, z.z5, z.z6])).new (.live false [.int .i64 3, .int .i64 a, .int .i64 b, .int .i64 c])) = η1 at *
 obtain ⟨t1, t2⟩ := and_lt ht
 have u1 := has_lt t1
 have u2 := has_lt t2
 obtain ⟨b1, off1, cap1, ro1, row1, z1, hb1, hn1, hr1⟩ := hq.mems.at (has_lt t1)
 obtain ⟨b2, off2, cap2, ro2, row2, z2, hb2', hn2, hr2⟩ := hq.slots.at (has_lt t2)
 rw [getD_get _ _ u1, getD_get _ _ u2] at key
 simp -implicitDefEqProofs (disch := omega) only [go_sem, hb, hb2, z1, z2, hb1, hb2', hr1, hr2, Bool.not_true, Bool.not_false]
 exact key rfl
set_option maxHeartbeats 4000000 in
theorem fits_4 (U : Usual nat) {η : HN} {z : PV} {p : PD} {pc a b c : Nat} {Q : AV → HN → Prop} (hp : IsP η z p) (hf : Fine p) (ht : thereF p pc ⟨4, a, b, c⟩ = true) (h : ∀ η', ExtB η.nx η η' → Q (.bool (kindsF p ⟨4, a, b, c⟩)) η') : ∃ v η', CallN Try.prog nat 47 [.agg z.cells, .agg (Ins.cells ⟨4, a, b, c⟩)] η v η' ∧ Q v η' := by
 refine call_of (PT := pl47) Try.func47 rfl (U 47 (by decide)) ok47 rfl ?_
 have h1 := hf.ins.1
 have h2 := hf.outs.1
 have h3 := hf.slots.1
 have h4 := hf.mems.1
 have h5 := hf.consts.1
 have hcs : Ins.cells ⟨4, a, b, c⟩ = [.int .i64 4, .int .i64 a, .int .i64 b, .int .i64 c] := rfl
 have E : ExtB η.nx η ((η.new (.live false [z.z1, z.z2, z.z3, z.z4, z.z5, z.z6])).new (.live false [.int .i64 4, .int .i64 a, .int .i64 b, .int .i64 c])) := extN (extN (.refl _ _))
 have hb : ((η.new (.live false [z.z1, z.z2, z.z3, z.z4, z.z5, z.z6])).new (.live false [.int .i64 4, .int .i64 a, .int .i64 b, .int .i64 c])).f η.nx = .live false z.cells := by show (if η.nx = η.nx + 1 then _ else if η.nx = η.nx then _ else _) = _; rw [if_neg (by omega), if_pos rfl]
 have hb2 : ((η.new (.live false [z.z1, z.z2, z.z3, z.z4, z.z5, z.z6])).new (.live false [.int .i64 4, .int .i64 a, .int .i64 b, .int .i64 c])).f (η.nx + 1) = .live false [.int .i64 4, .int .i64 a, .int .i64 b, .int .i64 c] := by show (if η.nx + 1 = η.nx + 1 then _ else _) = _; rw [if_pos rfl]
 have hq := hp.ext E
 have ht : (has p.slots a && has p.ins b) = true := ht
 have key : ∀ {v : Bool}, (decide (p.slots.getD a 0 = p.ins.getD b 0)) = v → Q (.bool v) ((η.new (.live false [z.z1, z.z2, z.z3, z.z4, z.z5, z.z6])).new (.live false [.int .i64 4, .int .i64 a, .int .i64 b, .int .i64 c])) := fun e => by rw [← e]; exact h _ E
 unfold isF at key
 clear h
 simp -implicitDefEqProofs (disch := omega) only [go_sem, hcs]
 generalize ((η.new (.live false [z.z1, z.z2, z.z3, z.z4, z.z5, z.z6])).new (.live false [.int .i64 4, .int .i64 a, .int .i64 b, .int .i64 c])) = η1 at *
 obtain ⟨t1, t2⟩ := and_lt ht
 have u1 := has_lt t1
 have u2 := has_lt t2
 obtain ⟨b1, off1, cap1, ro1, row1, z1, hb1, hn1, hr1⟩ := hq.slots.at (has_lt t1)
 obtain ⟨b2, off2, cap2, ro2, row2, z2, hb2', hn2, hr2⟩ := hq.ins.at (has_lt t2)
 rw [getD_get _ _ u1, getD_get _ _ u2] at key
 simp -implicitDefEqProofs (disch := omega) only [go_sem, hb, hb2, z1, z2, hb1, hb2', hr1, hr2, Bool.not_true, Bool.not_false]
 exact key rfl
set_option maxHeartbeats 4000000 in
theorem fits_5 (U : Usual nat) {η : HN} {z : PV} {p : PD} {pc a b c : Nat} {Q : AV → HN → Prop} (hp : IsP η z p) (hf : Fine p) (ht : thereF p pc ⟨5, a, b, c⟩ = true) (h : ∀ η', ExtB η.nx η η' → Q (.bool (kindsF p ⟨5, a, b, c⟩)) η') : ∃ v η', CallN Try.prog nat 47 [.agg z.cells, .agg (Ins.cells ⟨5, a, b, c⟩)] η v η' ∧ Q v η' := by
 refine call_of (PT := pl47) Try.func47 rfl (U 47 (by decide)) ok47 rfl ?_
 have h1 := hf.ins.1
 have h2 := hf.outs.1
 have h3 := hf.slots.1
 have h4 := hf.mems.1
 have h5 := hf.consts.1
 have hcs : Ins.cells ⟨5, a, b, c⟩ = [.int .i64 5, .int .i64 a, .int .i64 b, .int .i64 c] := rfl
 have E : ExtB η.nx η ((η.new (.live false [z.z1, z.z2, z.z3, z.z4, z.z5, z.z6])).new (.live false [.int .i64 5, .int .i64 a, .int .i64 b, .int .i64 c])) := extN (extN (.refl _ _))
 have hb : ((η.new (.live false [z.z1, z.z2, z.z3, z.z4, z.z5, z.z6])).new (.live false [.int .i64 5, .int .i64 a, .int .i64 b, .int .i64 c])).f η.nx = .live false z.cells := by show (if η.nx = η.nx + 1 then _ else if η.nx = η.nx then _ else _) = _; rw [if_neg (by omega), if_pos rfl]
 have hb2 : ((η.new (.live false [z.z1, z.z2, z.z3, z.z4, z.z5, z.z6])).new (.live false [.int .i64 5, .int .i64 a, .int .i64 b, .int .i64 c])).f (η.nx + 1) = .live false [.int .i64 5, .int .i64 a, .int .i64 b, .int .i64 c] := by show (if η.nx + 1 = η.nx + 1 then _ else _) = _; rw [if_pos rfl]
 have hq := hp.ext E
 have ht : (has p.outs a && has p.slots b) = true := ht
 have key : ∀ {v : Bool}, (decide (p.outs.getD a 0 = p.slots.getD b 0)) = v → Q (.bool v) ((η.new (.live false [z.z1, z.z2, z.z3, z.z4, z.z5, z.z6])).new (.live false [.int .i64 5, .int .i64 a, .int .i64 b, .int .i64 c])) := fun e => by rw [← e]; exact h _ E
 unfold isF at key
 clear h
 simp -implicitDefEqProofs (disch := omega) only [go_sem, hcs]
 generalize ((η.new (.live false [z.z1, z.z2, z.z3, z.z4, z.z5, z.z6])).new (.live false [.int .i64 5, .int .i64 a, .int .i64 b, .int .i64 c])) = η1 at *
 obtain ⟨t1, t2⟩ := and_lt ht
 have u1 := has_lt t1
 have u2 := has_lt t2
 obtain ⟨b1, off1, cap1, ro1, row1, z1, hb1, hn1, hr1⟩ := hq.outs.at (has_lt t1)
 obtain ⟨b2, off2, cap2, ro2, row2, z2, hb2', hn2, hr2⟩ := hq.slots.at (has_lt t2)
 rw [getD_get _ _ u1, getD_get _ _ u2] at key
 simp -implicitDefEqProofs (disch := omega) only [go_sem, hb, hb2, z1, z2, hb1, hb2', hr1, hr2, Bool.not_true, Bool.not_false]
 exact key rfl
set_option maxHeartbeats 4000000 in
theorem fits_6 (U : Usual nat) {η : HN} {z : PV} {p : PD} {pc a b c : Nat} {Q : AV → HN → Prop} (hp : IsP η z p) (hf : Fine p) (ht : thereF p pc ⟨6, a, b, c⟩ = true) (h : ∀ η', ExtB η.nx η η' → Q (.bool (kindsF p ⟨6, a, b, c⟩)) η') : ∃ v η', CallN Try.prog nat 47 [.agg z.cells, .agg (Ins.cells ⟨6, a, b, c⟩)] η v η' ∧ Q v η' := by
 refine call_of (PT := pl47) Try.func47 rfl (U 47 (by decide)) ok47 rfl ?_
 have h1 := hf.ins.1
 have h2 := hf.outs.1
 have h3 := hf.slots.1
 have h4 := hf.mems.1
 have h5 := hf.consts.1
 have hcs : Ins.cells ⟨6, a, b, c⟩ = [.int .i64 6, .int .i64 a, .int .i64 b, .int .i64 c] := rfl
 have E : ExtB η.nx η ((η.new (.live false [z.z1, z.z2, z.z3, z.z4, z.z5, z.z6])).new (.live false [.int .i64 6, .int .i64 a, .int .i64 b, .int .i64 c])) := extN (extN (.refl _ _))
 have hb : ((η.new (.live false [z.z1, z.z2, z.z3, z.z4, z.z5, z.z6])).new (.live false [.int .i64 6, .int .i64 a, .int .i64 b, .int .i64 c])).f η.nx = .live false z.cells := by show (if η.nx = η.nx + 1 then _ else if η.nx = η.nx then _ else _) = _; rw [if_neg (by omega), if_pos rfl]
 have hb2 : ((η.new (.live false [z.z1, z.z2, z.z3, z.z4, z.z5, z.z6])).new (.live false [.int .i64 6, .int .i64 a, .int .i64 b, .int .i64 c])).f (η.nx + 1) = .live false [.int .i64 6, .int .i64 a, .int .i64 b, .int .i64 c] := by show (if η.nx + 1 = η.nx + 1 then _ else _) = _; rw [if_pos rfl]
 have hq := hp.ext E
 have ht : (has p.slots a && has p.slots b) = true := ht
 have key : ∀ {v : Bool}, (isF p 1 a && isF p 1 b) = v → Q (.bool v) ((η.new (.live false [z.z1, z.z2, z.z3, z.z4, z.z5, z.z6])).new (.live false [.int .i64 6, .int .i64 a, .int .i64 b, .int .i64 c])) := fun e => by rw [← e]; exact h _ E
 unfold isF at key
 clear h
 simp -implicitDefEqProofs (disch := omega) only [go_sem, hcs]
 generalize ((η.new (.live false [z.z1, z.z2, z.z3, z.z4, z.z5, z.z6])).new (.live false [.int .i64 6, .int .i64 a, .int .i64 b, .int .i64 c])) = η1 at *
 obtain ⟨t1, t2⟩ := and_lt ht
 obtain ⟨ba, offa, capa, roa, rowa, za, hba, hna, hra⟩ := hq.slots.at (has_lt t1)
 have ua := has_lt t1
 obtain ⟨bb, offb, capb, rob, rowb, zb, hbb, hnb, hrb⟩ := hq.slots.at (has_lt t2)
 have ub := has_lt t2
 rw [za] at zb
 cases zb
 rw [hba] at hbb
 cases hbb
 rw [getD_get _ _ ua, getD_get _ _ ub] at key
 by_cases va : p.slots[a] ≠ 1
 ·simp -implicitDefEqProofs (disch := omega) only [go_sem, hb, hb2, za, hba, hra, hrb, Bool.not_true, Bool.not_false]
  exact key (by simp [va])
 have va : p.slots[a] = 1 := Decidable.byContradiction va
 by_cases vb : p.slots[b] ≠ 1
 ·simp -implicitDefEqProofs (disch := omega) only [go_sem, hb, hb2, za, hba, hra, hrb, va, Bool.not_true, Bool.not_false]
  exact key (by simp [va, vb])
 have vb : p.slots[b] = 1 := Decidable.byContradiction vb
 simp -implicitDefEqProofs (disch := omega) only [go_sem, hb, hb2, za, hba, hra, hrb, va, vb, Bool.not_true, Bool.not_false]
 exact key (by simp [va, vb])
set_option maxHeartbeats 4000000 in
theorem fits_7 (U : Usual nat) {η : HN} {z : PV} {p : PD} {pc a b c : Nat} {Q : AV → HN → Prop} (hp : IsP η z p) (hf : Fine p) (ht : thereF p pc ⟨7, a, b, c⟩ = true) (h : ∀ η', ExtB η.nx η η' → Q (.bool (kindsF p ⟨7, a, b, c⟩)) η') : ∃ v η', CallN Try.prog nat 47 [.agg z.cells, .agg (Ins.cells ⟨7, a, b, c⟩)] η v η' ∧ Q v η' := by
 refine call_of (PT := pl47) Try.func47 rfl (U 47 (by decide)) ok47 rfl ?_
 have h1 := hf.ins.1
 have h2 := hf.outs.1
 have h3 := hf.slots.1
 have h4 := hf.mems.1
 have h5 := hf.consts.1
 have hcs : Ins.cells ⟨7, a, b, c⟩ = [.int .i64 7, .int .i64 a, .int .i64 b, .int .i64 c] := rfl
 have E : ExtB η.nx η ((η.new (.live false [z.z1, z.z2, z.z3, z.z4, z.z5, z.z6])).new (.live false [.int .i64 7, .int .i64 a, .int .i64 b, .int .i64 c])) := extN (extN (.refl _ _))
 have hb : ((η.new (.live false [z.z1, z.z2, z.z3, z.z4, z.z5, z.z6])).new (.live false [.int .i64 7, .int .i64 a, .int .i64 b, .int .i64 c])).f η.nx = .live false z.cells := by show (if η.nx = η.nx + 1 then _ else if η.nx = η.nx then _ else _) = _; rw [if_neg (by omega), if_pos rfl]
 have hb2 : ((η.new (.live false [z.z1, z.z2, z.z3, z.z4, z.z5, z.z6])).new (.live false [.int .i64 7, .int .i64 a, .int .i64 b, .int .i64 c])).f (η.nx + 1) = .live false [.int .i64 7, .int .i64 a, .int .i64 b, .int .i64 c] := by show (if η.nx + 1 = η.nx + 1 then _ else _) = _; rw [if_pos rfl]
 have hq := hp.ext E
 have ht : (has p.slots a && has p.slots b) = true := ht
 have key : ∀ {v : Bool}, (isF p 2 a && isF p 2 b) = v → Q (.bool v) ((η.new (.live false [z.z1, z.z2, z.z3, z.z4, z.z5, z.z6])).new (.live false [.int .i64 7, .int .i64 a, .int .i64 b, .int .i64 c])) := fun e => by rw [← e]; exact h _ E
 unfold isF at key
 clear h
 simp -implicitDefEqProofs (disch := omega) only [go_sem, hcs]
 generalize ((η.new (.live false [z.z1, z.z2, z.z3, z.z4, z.z5, z.z6])).new (.live false [.int .i64 7, .int .i64 a, .int .i64 b, .int .i64 c])) = η1 at *
 obtain ⟨t1, t2⟩ := and_lt ht
 obtain ⟨ba, offa, capa, roa, rowa, za, hba, hna, hra⟩ := hq.slots.at (has_lt t1)
 have ua := has_lt t1
 obtain ⟨bb, offb, capb, rob, rowb, zb, hbb, hnb, hrb⟩ := hq.slots.at (has_lt t2)
 have ub := has_lt t2
 rw [za] at zb
 cases zb
 rw [hba] at hbb
 cases hbb
 rw [getD_get _ _ ua, getD_get _ _ ub] at key
 by_cases va : p.slots[a] ≠ 2
 ·simp -implicitDefEqProofs (disch := omega) only [go_sem, hb, hb2, za, hba, hra, hrb, Bool.not_true, Bool.not_false]
  exact key (by simp [va])
 have va : p.slots[a] = 2 := Decidable.byContradiction va
 by_cases vb : p.slots[b] ≠ 2
 ·simp -implicitDefEqProofs (disch := omega) only [go_sem, hb, hb2, za, hba, hra, hrb, va, Bool.not_true, Bool.not_false]
  exact key (by simp [va, vb])
 have vb : p.slots[b] = 2 := Decidable.byContradiction vb
 simp -implicitDefEqProofs (disch := omega) only [go_sem, hb, hb2, za, hba, hra, hrb, va, vb, Bool.not_true, Bool.not_false]
 exact key (by simp [va, vb])
set_option maxHeartbeats 4000000 in
theorem fits_19 (U : Usual nat) {η : HN} {z : PV} {p : PD} {pc a b c : Nat} {Q : AV → HN → Prop} (hp : IsP η z p) (hf : Fine p) (ht : thereF p pc ⟨19, a, b, c⟩ = true) (h : ∀ η', ExtB η.nx η η' → Q (.bool (kindsF p ⟨19, a, b, c⟩)) η') : ∃ v η', CallN Try.prog nat 47 [.agg z.cells, .agg (Ins.cells ⟨19, a, b, c⟩)] η v η' ∧ Q v η' := by
 refine call_of (PT := pl47) Try.func47 rfl (U 47 (by decide)) ok47 rfl ?_
 have h1 := hf.ins.1
 have h2 := hf.outs.1
 have h3 := hf.slots.1
 have h4 := hf.mems.1
 have h5 := hf.consts.1
 have hcs : Ins.cells ⟨19, a, b, c⟩ = [.int .i64 19, .int .i64 a, .int .i64 b, .int .i64 c] := rfl
 have E : ExtB η.nx η ((η.new (.live false [z.z1, z.z2, z.z3, z.z4, z.z5, z.z6])).new (.live false [.int .i64 19, .int .i64 a, .int .i64 b, .int .i64 c])) := extN (extN (.refl _ _))
 have hb : ((η.new (.live false [z.z1, z.z2, z.z3, z.z4, z.z5, z.z6])).new (.live false [.int .i64 19, .int .i64 a, .int .i64 b, .int .i64 c])).f η.nx = .live false z.cells := by show (if η.nx = η.nx + 1 then _ else if η.nx = η.nx then _ else _) = _; rw [if_neg (by omega), if_pos rfl]
 have hb2 : ((η.new (.live false [z.z1, z.z2, z.z3, z.z4, z.z5, z.z6])).new (.live false [.int .i64 19, .int .i64 a, .int .i64 b, .int .i64 c])).f (η.nx + 1) = .live false [.int .i64 19, .int .i64 a, .int .i64 b, .int .i64 c] := by show (if η.nx + 1 = η.nx + 1 then _ else _) = _; rw [if_pos rfl]
 have hq := hp.ext E
 have ht : (targetF p pc a && has p.slots b) = true := ht
 have key : ∀ {v : Bool}, (isF p 1 b) = v → Q (.bool v) ((η.new (.live false [z.z1, z.z2, z.z3, z.z4, z.z5, z.z6])).new (.live false [.int .i64 19, .int .i64 a, .int .i64 b, .int .i64 c])) := fun e => by rw [← e]; exact h _ E
 unfold isF at key
 clear h
 simp -implicitDefEqProofs (disch := omega) only [go_sem, hcs]
 generalize ((η.new (.live false [z.z1, z.z2, z.z3, z.z4, z.z5, z.z6])).new (.live false [.int .i64 19, .int .i64 a, .int .i64 b, .int .i64 c])) = η1 at *
 have t1 := (and_lt ht).2
 obtain ⟨bb, offb, capb, rob, rowb, zb, hbb, hnb, hrb⟩ := hq.slots.at (has_lt t1)
 have ub := has_lt t1
 rw [getD_get _ _ ub] at key
 simp -implicitDefEqProofs (disch := omega) only [go_sem, hb, hb2, zb, hbb, hrb, Bool.not_true, Bool.not_false]
 exact key rfl
set_option maxHeartbeats 4000000 in
theorem fits_20 (U : Usual nat) {η : HN} {z : PV} {p : PD} {pc a b c : Nat} {Q : AV → HN → Prop} (hp : IsP η z p) (hf : Fine p) (ht : thereF p pc ⟨20, a, b, c⟩ = true) (h : ∀ η', ExtB η.nx η η' → Q (.bool (kindsF p ⟨20, a, b, c⟩)) η') : ∃ v η', CallN Try.prog nat 47 [.agg z.cells, .agg (Ins.cells ⟨20, a, b, c⟩)] η v η' ∧ Q v η' := by
 refine call_of (PT := pl47) Try.func47 rfl (U 47 (by decide)) ok47 rfl ?_
 have h1 := hf.ins.1
 have h2 := hf.outs.1
 have h3 := hf.slots.1
 have h4 := hf.mems.1
 have h5 := hf.consts.1
 have hcs : Ins.cells ⟨20, a, b, c⟩ = [.int .i64 20, .int .i64 a, .int .i64 b, .int .i64 c] := rfl
 have E : ExtB η.nx η ((η.new (.live false [z.z1, z.z2, z.z3, z.z4, z.z5, z.z6])).new (.live false [.int .i64 20, .int .i64 a, .int .i64 b, .int .i64 c])) := extN (extN (.refl _ _))
 have hb : ((η.new (.live false [z.z1, z.z2, z.z3, z.z4, z.z5, z.z6])).new (.live false [.int .i64 20, .int .i64 a, .int .i64 b, .int .i64 c])).f η.nx = .live false z.cells := by show (if η.nx = η.nx + 1 then _ else if η.nx = η.nx then _ else _) = _; rw [if_neg (by omega), if_pos rfl]
 have hb2 : ((η.new (.live false [z.z1, z.z2, z.z3, z.z4, z.z5, z.z6])).new (.live false [.int .i64 20, .int .i64 a, .int .i64 b, .int .i64 c])).f (η.nx + 1) = .live false [.int .i64 20, .int .i64 a, .int .i64 b, .int .i64 c] := by show (if η.nx + 1 = η.nx + 1 then _ else _) = _; rw [if_pos rfl]
 have hq := hp.ext E
 have ht : (targetF p pc a) = true := ht
 have key : ∀ {v : Bool}, (true) = v → Q (.bool v) ((η.new (.live false [z.z1, z.z2, z.z3, z.z4, z.z5, z.z6])).new (.live false [.int .i64 20, .int .i64 a, .int .i64 b, .int .i64 c])) := fun e => by rw [← e]; exact h _ E
 unfold isF at key
 clear h
 simp -implicitDefEqProofs (disch := omega) only [go_sem, hcs]
 generalize ((η.new (.live false [z.z1, z.z2, z.z3, z.z4, z.z5, z.z6])).new (.live false [.int .i64 20, .int .i64 a, .int .i64 b, .int .i64 c])) = η1 at *
 exact key rfl
end Go.Proofs.Ytjljolnhmmbkoaa
namespace Go.Proofs.Ytjljolnhmmbkoaa
open Go.Eng Go.Plain
set_option autoImplicit false
set_option maxRecDepth 100000
variable {nat : ∀ [Deep], Nats}
set_option maxHeartbeats 4000000 in
theorem fits_8 (U : Usual nat) {η : HN} {z : PV} {p : PD} {pc a b c : Nat} {Q : AV → HN → Prop} (hp : IsP η z p) (hf : Fine p) (ht : thereF p pc ⟨8, a, b, c⟩ = true) (h : ∀ η', ExtB η.nx η η' → Q (.bool (kindsF p ⟨8, a, b, c⟩)) η') : ∃ v η', CallN Try.prog nat 47 [.agg z.cells, .agg (Ins.cells ⟨8, a, b, c⟩)] η v η' ∧ Q v η' := by
 refine call_of (PT := pl47) Try.func47 rfl (U 47 (by decide)) ok47 rfl ?_
 have h1 := hf.ins.1
 have h2 := hf.outs.1
 have h3 := hf.slots.1
 have h4 := hf.mems.1
 have h5 := hf.consts.1
 have hcs : Ins.cells ⟨8, a, b, c⟩ = [.int .i64 8, .int .i64 a, .int .i64 b, .int .i64 c] := rfl
 have E : ExtB η.nx η ((η.new (.live false [z.z1, z.z2, z.z3, z.z4, z.z5, z.z6])).new (.live false [.int .i64 8, .int .i64 a, .int .i64 b, .int .i64 c])) := extN (extN (.refl _ _))
 have hb : ((η.new (.live false [z.z1, z.z2, z.z3, z.z4, z.z5, z.z6])).new (.live false [.int .i64 8, .int .i64 a, .int .i64 b, .int .i64 c])).f η.nx = .live false z.cells := by show (if η.nx = η.nx + 1 then _ else if η.nx = η.nx then _ else _) = _; rw [if_neg (by omega), if_pos rfl]
 have hb2 : ((η.new (.live false [z.z1, z.z2, z.z3, z.z4, z.z5, z.z6])).new (.live false [.int .i64 8, .int .i64 a, .int .i64 b, .int .i64 c])).f (η.nx + 1) = .live false [.int .i64 8, .int .i64 a, .int .i64 b, .int .i64 c] := by show (if η.nx + 1 = η.nx + 1 then _ else _) = _; rw [if_pos rfl]
 have hq := hp.ext E
 have ht : (true && (has p.slots a && (has p.slots b && has p.slots c))) = true := ht
 have key : ∀ {v : Bool}, (isF p 2 a && (isF p 2 b && isF p 2 c)) = v → Q (.bool v) ((η.new (.live false [z.z1, z.z2, z.z3, z.z4, z.z5, z.z6])).new (.live false [.int .i64 8, .int .i64 a, .int .i64 b, .int .i64 c])) := fun e => by rw [← e]; exact h _ E
 unfold isF at key
 clear h
 simp -implicitDefEqProofs (disch := omega) only [go_sem, hcs]
 generalize ((η.new (.live false [z.z1, z.z2, z.z3, z.z4, z.z5, z.z6])).new (.live false [.int .i64 8, .int .i64 a, .int .i64 b, .int .i64 c])) = η1 at *
 have ht := (and_lt ht).2
 obtain ⟨t1, ht⟩ := and_lt ht
 obtain ⟨t2, t3⟩ := and_lt ht
 obtain ⟨ba, offa, capa, roa, rowa, za, hba, hna, hra⟩ := hq.slots.at (has_lt t1)
 have ua := has_lt t1
 obtain ⟨bb, offb, capb, rob, rowb, zb, hbb, hnb, hrb⟩ := hq.slots.at (has_lt t2)
 have ub := has_lt t2
 rw [za] at zb
 cases zb
 rw [hba] at hbb
 cases hbb
 obtain ⟨bc, offc, capc, roc, rowc, zc, hbc, hnc, hrc⟩ := hq.slots.at (has_lt t3)
 have uc := has_lt t3
 rw [za] at zc
 cases zc
 rw [hba] at hbc
 cases hbc
 rw [getD_get _ _ ua, getD_get _ _ ub, getD_get _ _ uc] at key
 by_cases va : p.slots[a] ≠ 2
 ·simp -implicitDefEqProofs (disch := omega) only [go_sem, hb, hb2, za, hba, hra, hrb, hrc, Bool.not_true, Bool.not_false]
  exact key (by simp [va])
 have va : p.slots[a] = 2 := Decidable.byContradiction va
 by_cases vb : p.slots[b] ≠ 2
 ·simp -implicitDefEqProofs (disch := omega) only [go_sem, hb, hb2, za, hba, hra, hrb, hrc, va, Bool.not_true, Bool.not_false]
  exact key (by simp [va, vb])
 have vb : p.slots[b] = 2 := Decidable.byContradiction vb
 by_cases vc : p.slots[c] ≠ 2
 ·simp -implicitDefEqProofs (disch := omega) only [go_sem, hb, hb2, za, hba, hra, hrb, hrc, va, vb, Bool.not_true, Bool.not_false]
  exact key (by simp [va, vb, vc])
 have vc : p.slots[c] = 2 := Decidable.byContradiction vc
 simp -implicitDefEqProofs (disch := omega) only [go_sem, hb, hb2, za, hba, hra, hrb, hrc, va, vb, vc, Bool.not_true, Bool.not_false]
 exact key (by simp [va, vb, vc])
set_option maxHeartbeats 4000000 in
theorem fits_9 (U : Usual nat) {η : HN} {z : PV} {p : PD} {pc a b c : Nat} {Q : AV → HN → Prop} (hp : IsP η z p) (hf : Fine p) (ht : thereF p pc ⟨9, a, b, c⟩ = true) (h : ∀ η', ExtB η.nx η η' → Q (.bool (kindsF p ⟨9, a, b, c⟩)) η') : ∃ v η', CallN Try.prog nat 47 [.agg z.cells, .agg (Ins.cells ⟨9, a, b, c⟩)] η v η' ∧ Q v η' := by
 refine call_of (PT := pl47) Try.func47 rfl (U 47 (by decide)) ok47 rfl ?_
 have h1 := hf.ins.1
 have h2 := hf.outs.1
 have h3 := hf.slots.1
 have h4 := hf.mems.1
 have h5 := hf.consts.1
 have hcs : Ins.cells ⟨9, a, b, c⟩ = [.int .i64 9, .int .i64 a, .int .i64 b, .int .i64 c] := rfl
 have E : ExtB η.nx η ((η.new (.live false [z.z1, z.z2, z.z3, z.z4, z.z5, z.z6])).new (.live false [.int .i64 9, .int .i64 a, .int .i64 b, .int .i64 c])) := extN (extN (.refl _ _))
 have hb : ((η.new (.live false [z.z1, z.z2, z.z3, z.z4, z.z5, z.z6])).new (.live false [.int .i64 9, .int .i64 a, .int .i64 b, .int .i64 c])).f η.nx = .live false z.cells := by show (if η.nx = η.nx + 1 then _ else if η.nx = η.nx then _ else _) = _; rw [if_neg (by omega), if_pos rfl]
 have hb2 : ((η.new (.live false [z.z1, z.z2, z.z3, z.z4, z.z5, z.z6])).new (.live false [.int .i64 9, .int .i64 a, .int .i64 b, .int .i64 c])).f (η.nx + 1) = .live false [.int .i64 9, .int .i64 a, .int .i64 b, .int .i64 c] := by show (if η.nx + 1 = η.nx + 1 then _ else _) = _; rw [if_pos rfl]
 have hq := hp.ext E
 have ht : (true && (has p.slots a && (has p.slots b && has p.slots c))) = true := ht
 have key : ∀ {v : Bool}, (isF p 2 a && (isF p 2 b && isF p 2 c)) = v → Q (.bool v) ((η.new (.live false [z.z1, z.z2, z.z3, z.z4, z.z5, z.z6])).new (.live false [.int .i64 9, .int .i64 a, .int .i64 b, .int .i64 c])) := fun e => by rw [← e]; exact h _ E
 unfold isF at key
 clear h
 simp -implicitDefEqProofs (disch := omega) only [go_sem, hcs]
 generalize ((η.new (.live false [z.z1, z.z2, z.z3, z.z4, z.z5, z.z6])).new (.live false [.int .i64 9, .int .i64 a, .int .i64 b, .int .i64 c])) = η1 at *
 have ht := (and_lt ht).2
 obtain ⟨t1, ht⟩ := and_lt ht
 obtain ⟨t2, t3⟩ := and_lt ht
 obtain ⟨ba, offa, capa, roa, rowa, za, hba, hna, hra⟩ := hq.slots.at (has_lt t1)
 have ua := has_lt t1
 obtain ⟨bb, offb, capb, rob, rowb, zb, hbb, hnb, hrb⟩ := hq.slots.at (has_lt t2)
 have ub := has_lt t2
 rw [za] at zb
 cases zb
 rw [hba] at hbb
 cases hbb
 obtain ⟨bc, offc, capc, roc, rowc, zc, hbc, hnc, hrc⟩ := hq.slots.at (has_lt t3)
 have uc := has_lt t3
 rw [za] at zc
 cases zc
 rw [hba] at hbc
 cases hbc
 rw [getD_get _ _ ua, getD_get _ _ ub, getD_get _ _ uc] at key
 by_cases va : p.slots[a] ≠ 2
 ·simp -implicitDefEqProofs (disch := omega) only [go_sem, hb, hb2, za, hba, hra, hrb, hrc, Bool.not_true, Bool.not_false]
  exact key (by simp [va])
 have va : p.slots[a] = 2 := Decidable.byContradiction va
 by_cases vb : p.slots[b] ≠ 2
 ·simp -implicitDefEqProofs (disch := omega) only [go_sem, hb, hb2, za, hba, hra, hrb, hrc, va, Bool.not_true, Bool.not_false]
  exact key (by simp [va, vb])
 have vb : p.slots[b] = 2 := Decidable.byContradiction vb
 by_cases vc : p.slots[c] ≠ 2
 ·simp -implicitDefEqProofs (disch := omega) only [go_sem, hb, hb2, za, hba, hra, hrb, hrc, va, vb, Bool.not_true, Bool.not_false]
  exact key (by simp [va, vb, vc])
 have vc : p.slots[c] = 2 := Decidable.byContradiction vc
 simp -implicitDefEqProofs (disch := omega) only [go_sem, hb, hb2, za, hba, hra, hrb, hrc, va, vb, vc, Bool.not_true, Bool.not_false]
 exact key (by simp [va, vb, vc])
set_option maxHeartbeats 4000000 in
theorem fits_10 (U : Usual nat) {η : HN} {z : PV} {p : PD} {pc a b c : Nat} {Q : AV → HN → Prop} (hp : IsP η z p) (hf : Fine p) (ht : thereF p pc ⟨10, a, b, c⟩ = true) (h : ∀ η', ExtB η.nx η η' → Q (.bool (kindsF p ⟨10, a, b, c⟩)) η') : ∃ v η', CallN Try.prog nat 47 [.agg z.cells, .agg (Ins.cells ⟨10, a, b, c⟩)] η v η' ∧ Q v η' := by
 refine call_of (PT := pl47) Try.func47 rfl (U 47 (by decide)) ok47 rfl ?_
 have h1 := hf.ins.1
 have h2 := hf.outs.1
 have h3 := hf.slots.1
 have h4 := hf.mems.1
 have h5 := hf.consts.1
 have hcs : Ins.cells ⟨10, a, b, c⟩ = [.int .i64 10, .int .i64 a, .int .i64 b, .int .i64 c] := rfl
 have E : ExtB η.nx η ((η.new (.live false [z.z1, z.z2, z.z3, z.z4, z.z5, z.z6])).new (.live false [.int .i64 10, .int .i64 a, .int .i64 b, .int .i64 c])) := extN (extN (.refl _ _))
 have hb : ((η.new (.live false [z.z1, z.z2, z.z3, z.z4, z.z5, z.z6])).new (.live false [.int .i64 10, .int .i64 a, .int .i64 b, .int .i64 c])).f η.nx = .live false z.cells := by show (if η.nx = η.nx + 1 then _ else if η.nx = η.nx then _ else _) = _; rw [if_neg (by omega), if_pos rfl]
 have hb2 : ((η.new (.live false [z.z1, z.z2, z.z3, z.z4, z.z5, z.z6])).new (.live false [.int .i64 10, .int .i64 a, .int .i64 b, .int .i64 c])).f (η.nx + 1) = .live false [.int .i64 10, .int .i64 a, .int .i64 b, .int .i64 c] := by show (if η.nx + 1 = η.nx + 1 then _ else _) = _; rw [if_pos rfl]
 have hq := hp.ext E
 have ht : (true && (has p.slots a && (has p.slots b && has p.slots c))) = true := ht
 have key : ∀ {v : Bool}, (isF p 2 a && (isF p 2 b && isF p 2 c)) = v → Q (.bool v) ((η.new (.live false [z.z1, z.z2, z.z3, z.z4, z.z5, z.z6])).new (.live false [.int .i64 10, .int .i64 a, .int .i64 b, .int .i64 c])) := fun e => by rw [← e]; exact h _ E
 unfold isF at key
 clear h
 simp -implicitDefEqProofs (disch := omega) only [go_sem, hcs]
 generalize ((η.new (.live false [z.z1, z.z2, z.z3, z.z4, z.z5, z.z6])).new (.live false [.int .i64 10, .int .i64 a, .int .i64 b, .int .i64 c])) = η1 at *
 have ht := (and_lt ht).2
 obtain ⟨t1, ht⟩ := and_lt ht
 obtain ⟨t2, t3⟩ := and_lt ht
 obtain ⟨ba, offa, capa, roa, rowa, za, hba, hna, hra⟩ := hq.slots.at (has_lt t1)
 have ua := has_lt t1
 obtain ⟨bb, offb, capb, rob, rowb, zb, hbb, hnb, hrb⟩ := hq.slots.at (has_lt t2)
 have ub := has_lt t2
 rw [za] at zb
 cases zb
 rw [hba] at hbb
 cases hbb
 obtain ⟨bc, offc, capc, roc, rowc, zc, hbc, hnc, hrc⟩ := hq.slots.at (has_lt t3)
 have uc := has_lt t3
 rw [za] at zc
 cases zc
 rw [hba] at hbc
 cases hbc
 rw [getD_get _ _ ua, getD_get _ _ ub, getD_get _ _ uc] at key
 by_cases va : p.slots[a] ≠ 2
 ·simp -implicitDefEqProofs (disch := omega) only [go_sem, hb, hb2, za, hba, hra, hrb, hrc, Bool.not_true, Bool.not_false]
  exact key (by simp [va])
 have va : p.slots[a] = 2 := Decidable.byContradiction va
 by_cases vb : p.slots[b] ≠ 2
 ·simp -implicitDefEqProofs (disch := omega) only [go_sem, hb, hb2, za, hba, hra, hrb, hrc, va, Bool.not_true, Bool.not_false]
  exact key (by simp [va, vb])
 have vb : p.slots[b] = 2 := Decidable.byContradiction vb
 by_cases vc : p.slots[c] ≠ 2
 ·simp -implicitDefEqProofs (disch := omega) only [go_sem, hb, hb2, za, hba, hra, hrb, hrc, va, vb, Bool.not_true, Bool.not_false]
  exact key (by simp [va, vb, vc])
 have vc : p.slots[c] = 2 := Decidable.byContradiction vc
 simp -implicitDefEqProofs (disch := omega) only [go_sem, hb, hb2, za, hba, hra, hrb, hrc, va, vb, vc, Bool.not_true, Bool.not_false]
 exact key (by simp [va, vb, vc])
set_option maxHeartbeats 4000000 in
theorem fits_11 (U : Usual nat) {η : HN} {z : PV} {p : PD} {pc a b c : Nat} {Q : AV → HN → Prop} (hp : IsP η z p) (hf : Fine p) (ht : thereF p pc ⟨11, a, b, c⟩ = true) (h : ∀ η', ExtB η.nx η η' → Q (.bool (kindsF p ⟨11, a, b, c⟩)) η') : ∃ v η', CallN Try.prog nat 47 [.agg z.cells, .agg (Ins.cells ⟨11, a, b, c⟩)] η v η' ∧ Q v η' := by
 refine call_of (PT := pl47) Try.func47 rfl (U 47 (by decide)) ok47 rfl ?_
 have h1 := hf.ins.1
 have h2 := hf.outs.1
 have h3 := hf.slots.1
 have h4 := hf.mems.1
 have h5 := hf.consts.1
 have hcs : Ins.cells ⟨11, a, b, c⟩ = [.int .i64 11, .int .i64 a, .int .i64 b, .int .i64 c] := rfl
 have E : ExtB η.nx η ((η.new (.live false [z.z1, z.z2, z.z3, z.z4, z.z5, z.z6])).new (.live false [.int .i64 11, .int .i64 a, .int .i64 b, .int .i64 c])) := extN (extN (.refl _ _))
 have hb : ((η.new (.live false [z.z1, z.z2, z.z3, z.z4, z.z5, z.z6])).new (.live false [.int .i64 11, .int .i64 a, .int .i64 b, .int .i64 c])).f η.nx = .live false z.cells := by show (if η.nx = η.nx + 1 then _ else if η.nx = η.nx then _ else _) = _; rw [if_neg (by omega), if_pos rfl]
 have hb2 : ((η.new (.live false [z.z1, z.z2, z.z3, z.z4, z.z5, z.z6])).new (.live false [.int .i64 11, .int .i64 a, .int .i64 b, .int .i64 c])).f (η.nx + 1) = .live false [.int .i64 11, .int .i64 a, .int .i64 b, .int .i64 c] := by show (if η.nx + 1 = η.nx + 1 then _ else _) = _; rw [if_pos rfl]
 have hq := hp.ext E
 have ht : (true && (has p.slots a && (has p.slots b && has p.slots c))) = true := ht
 have key : ∀ {v : Bool}, (isF p 2 a && (isF p 2 b && isF p 2 c)) = v → Q (.bool v) ((η.new (.live false [z.z1, z.z2, z.z3, z.z4, z.z5, z.z6])).new (.live false [.int .i64 11, .int .i64 a, .int .i64 b, .int .i64 c])) := fun e => by rw [← e]; exact h _ E
 unfold isF at key
 clear h
 simp -implicitDefEqProofs (disch := omega) only [go_sem, hcs]
 generalize ((η.new (.live false [z.z1, z.z2, z.z3, z.z4, z.z5, z.z6])).new (.live false [.int .i64 11, .int .i64 a, .int .i64 b, .int .i64 c])) = η1 at *
 have ht := (and_lt ht).2
 obtain ⟨t1, ht⟩ := and_lt ht
 obtain ⟨t2, t3⟩ := and_lt ht
 obtain ⟨ba, offa, capa, roa, rowa, za, hba, hna, hra⟩ := hq.slots.at (has_lt t1)
 have ua := has_lt t1
 obtain ⟨bb, offb, capb, rob, rowb, zb, hbb, hnb, hrb⟩ := hq.slots.at (has_lt t2)
 have ub := has_lt t2
 rw [za] at zb
 cases zb
 rw [hba] at hbb
 cases hbb
 obtain ⟨bc, offc, capc, roc, rowc, zc, hbc, hnc, hrc⟩ := hq.slots.at (has_lt t3)
 have uc := has_lt t3
 rw [za] at zc
 cases zc
 rw [hba] at hbc
 cases hbc
 rw [getD_get _ _ ua, getD_get _ _ ub, getD_get _ _ uc] at key
 by_cases va : p.slots[a] ≠ 2
 ·simp -implicitDefEqProofs (disch := omega) only [go_sem, hb, hb2, za, hba, hra, hrb, hrc, Bool.not_true, Bool.not_false]
  exact key (by simp [va])
 have va : p.slots[a] = 2 := Decidable.byContradiction va
 by_cases vb : p.slots[b] ≠ 2
 ·simp -implicitDefEqProofs (disch := omega) only [go_sem, hb, hb2, za, hba, hra, hrb, hrc, va, Bool.not_true, Bool.not_false]
  exact key (by simp [va, vb])
 have vb : p.slots[b] = 2 := Decidable.byContradiction vb
 by_cases vc : p.slots[c] ≠ 2
 ·simp -implicitDefEqProofs (disch := omega) only [go_sem, hb, hb2, za, hba, hra, hrb, hrc, va, vb, Bool.not_true, Bool.not_false]
  exact key (by simp [va, vb, vc])
 have vc : p.slots[c] = 2 := Decidable.byContradiction vc
 simp -implicitDefEqProofs (disch := omega) only [go_sem, hb, hb2, za, hba, hra, hrb, hrc, va, vb, vc, Bool.not_true, Bool.not_false]
 exact key (by simp [va, vb, vc])
set_option maxHeartbeats 4000000 in
theorem fits_12 (U : Usual nat) {η : HN} {z : PV} {p : PD} {pc a b c : Nat} {Q : AV → HN → Prop} (hp : IsP η z p) (hf : Fine p) (ht : thereF p pc ⟨12, a, b, c⟩ = true) (h : ∀ η', ExtB η.nx η η' → Q (.bool (kindsF p ⟨12, a, b, c⟩)) η') : ∃ v η', CallN Try.prog nat 47 [.agg z.cells, .agg (Ins.cells ⟨12, a, b, c⟩)] η v η' ∧ Q v η' := by
 refine call_of (PT := pl47) Try.func47 rfl (U 47 (by decide)) ok47 rfl ?_
 have h1 := hf.ins.1
 have h2 := hf.outs.1
 have h3 := hf.slots.1
 have h4 := hf.mems.1
 have h5 := hf.consts.1
 have hcs : Ins.cells ⟨12, a, b, c⟩ = [.int .i64 12, .int .i64 a, .int .i64 b, .int .i64 c] := rfl
 have E : ExtB η.nx η ((η.new (.live false [z.z1, z.z2, z.z3, z.z4, z.z5, z.z6])).new (.live false [.int .i64 12, .int .i64 a, .int .i64 b, .int .i64 c])) := extN (extN (.refl _ _))
 have hb : ((η.new (.live false [z.z1, z.z2, z.z3, z.z4, z.z5, z.z6])).new (.live false [.int .i64 12, .int .i64 a, .int .i64 b, .int .i64 c])).f η.nx = .live false z.cells := by show (if η.nx = η.nx + 1 then _ else if η.nx = η.nx then _ else _) = _; rw [if_neg (by omega), if_pos rfl]
 have hb2 : ((η.new (.live false [z.z1, z.z2, z.z3, z.z4, z.z5, z.z6])).new (.live false [.int .i64 12, .int .i64 a, .int .i64 b, .int .i64 c])).f (η.nx + 1) = .live false [.int .i64 12, .int .i64 a, .int .i64 b, .int .i64 c] := by show (if η.nx + 1 = η.nx + 1 then _ else _) = _; rw [if_pos rfl]
 have hq := hp.ext E
 have ht : (true && (has p.slots a && (has p.slots b && has p.slots c))) = true := ht
 have key : ∀ {v : Bool}, (isF p 2 a && (isF p 2 b && isF p 2 c)) = v → Q (.bool v) ((η.new (.live false [z.z1, z.z2, z.z3, z.z4, z.z5, z.z6])).new (.live false [.int .i64 12, .int .i64 a, .int .i64 b, .int .i64 c])) := fun e => by rw [← e]; exact h _ E
 unfold isF at key
 clear h
 simp -implicitDefEqProofs (disch := omega) only [go_sem, hcs]
 generalize ((η.new (.live false [z.z1, z.z2, z.z3, z.z4, z.z5, z.z6])).new (.live false [.int .i64 12, .int .i64 a, .int .i64 b, .int .i64 c])) = η1 at *
 have ht := (and_lt ht).2
 obtain ⟨t1, ht⟩ := and_lt ht
 obtain ⟨t2, t3⟩ := and_lt ht
 obtain ⟨ba, offa, capa, roa, rowa, za, hba, hna, hra⟩ := hq.slots.at (has_lt t1)
 have ua := has_lt t1
 obtain ⟨bb, offb, capb, rob, rowb, zb, hbb, hnb, hrb⟩ := hq.slots.at (has_lt t2)
 have ub := has_lt t2
 rw [za] at zb
 cases zb
 rw [hba] at hbb
 cases hbb
 obtain ⟨bc, offc, capc, roc, rowc, zc, hbc, hnc, hrc⟩ := hq.slots.at (has_lt t3)
 have uc := has_lt t3
 rw [za] at zc
 cases zc
 rw [hba] at hbc
 cases hbc
 rw [getD_get _ _ ua, getD_get _ _ ub, getD_get _ _ uc] at key
 by_cases va : p.slots[a] ≠ 2
 ·simp -implicitDefEqProofs (disch := omega) only [go_sem, hb, hb2, za, hba, hra, hrb, hrc, Bool.not_true, Bool.not_false]
  exact key (by simp [va])
 have va : p.slots[a] = 2 := Decidable.byContradiction va
 by_cases vb : p.slots[b] ≠ 2
 ·simp -implicitDefEqProofs (disch := omega) only [go_sem, hb, hb2, za, hba, hra, hrb, hrc, va, Bool.not_true, Bool.not_false]
  exact key (by simp [va, vb])
 have vb : p.slots[b] = 2 := Decidable.byContradiction vb
 by_cases vc : p.slots[c] ≠ 2
 ·simp -implicitDefEqProofs (disch := omega) only [go_sem, hb, hb2, za, hba, hra, hrb, hrc, va, vb, Bool.not_true, Bool.not_false]
  exact key (by simp [va, vb, vc])
 have vc : p.slots[c] = 2 := Decidable.byContradiction vc
 simp -implicitDefEqProofs (disch := omega) only [go_sem, hb, hb2, za, hba, hra, hrb, hrc, va, vb, vc, Bool.not_true, Bool.not_false]
 exact key (by simp [va, vb, vc])
set_option maxHeartbeats 4000000 in
theorem fits_13 (U : Usual nat) {η : HN} {z : PV} {p : PD} {pc a b c : Nat} {Q : AV → HN → Prop} (hp : IsP η z p) (hf : Fine p) (ht : thereF p pc ⟨13, a, b, c⟩ = true) (h : ∀ η', ExtB η.nx η η' → Q (.bool (kindsF p ⟨13, a, b, c⟩)) η') : ∃ v η', CallN Try.prog nat 47 [.agg z.cells, .agg (Ins.cells ⟨13, a, b, c⟩)] η v η' ∧ Q v η' := by
 refine call_of (PT := pl47) Try.func47 rfl (U 47 (by decide)) ok47 rfl ?_
 have h1 := hf.ins.1
 have h2 := hf.outs.1
 have h3 := hf.slots.1
 have h4 := hf.mems.1
 have h5 := hf.consts.1
 have hcs : Ins.cells ⟨13, a, b, c⟩ = [.int .i64 13, .int .i64 a, .int .i64 b, .int .i64 c] := rfl
 have E : ExtB η.nx η ((η.new (.live false [z.z1, z.z2, z.z3, z.z4, z.z5, z.z6])).new (.live false [.int .i64 13, .int .i64 a, .int .i64 b, .int .i64 c])) := extN (extN (.refl _ _))
 have hb : ((η.new (.live false [z.z1, z.z2, z.z3, z.z4, z.z5, z.z6])).new (.live false [.int .i64 13, .int .i64 a, .int .i64 b, .int .i64 c])).f η.nx = .live false z.cells := by show (if η.nx = η.nx + 1 then _ else if η.nx = η.nx then _ else _) = _; rw [if_neg (by omega), if_pos rfl]
 have hb2 : ((η.new (.live false [z.z1, z.z2, z.z3, z.z4, z.z5, z.z6])).new (.live false [.int .i64 13, .int .i64 a, .int .i64 b, .int .i64 c])).f (η.nx + 1) = .live false [.int .i64 13, .int .i64 a, .int .i64 b, .int .i64 c] := by show (if η.nx + 1 = η.nx + 1 then _ else _) = _; rw [if_pos rfl]
 have hq := hp.ext E
 have ht : (true && (has p.slots a && (has p.slots b && has p.slots c))) = true := ht
 have key : ∀ {v : Bool}, (isF p 1 a && decide (p.slots.getD b 0 = p.slots.getD c 0)) = v → Q (.bool v) ((η.new (.live false [z.z1, z.z2, z.z3, z.z4, z.z5, z.z6])).new (.live false [.int .i64 13, .int .i64 a, .int .i64 b, .int .i64 c])) := fun e => by rw [← e]; exact h _ E
 unfold isF at key
 clear h
 simp -implicitDefEqProofs (disch := omega) only [go_sem, hcs]
 generalize ((η.new (.live false [z.z1, z.z2, z.z3, z.z4, z.z5, z.z6])).new (.live false [.int .i64 13, .int .i64 a, .int .i64 b, .int .i64 c])) = η1 at *
 have ht := (and_lt ht).2
 obtain ⟨t1, ht⟩ := and_lt ht
 obtain ⟨t2, t3⟩ := and_lt ht
 obtain ⟨ba, offa, capa, roa, rowa, za, hba, hna, hra⟩ := hq.slots.at (has_lt t1)
 have ua := has_lt t1
 obtain ⟨bb, offb, capb, rob, rowb, zb, hbb, hnb, hrb⟩ := hq.slots.at (has_lt t2)
 have ub := has_lt t2
 rw [za] at zb
 cases zb
 rw [hba] at hbb
 cases hbb
 obtain ⟨bc, offc, capc, roc, rowc, zc, hbc, hnc, hrc⟩ := hq.slots.at (has_lt t3)
 have uc := has_lt t3
 rw [za] at zc
 cases zc
 rw [hba] at hbc
 cases hbc
 rw [getD_get _ _ ua, getD_get _ _ ub, getD_get _ _ uc] at key
 by_cases va : p.slots[a] ≠ 1
 ·simp -implicitDefEqProofs (disch := omega) only [go_sem, hb, hb2, za, hba, hra, hrb, hrc, Bool.not_true, Bool.not_false]
  exact key (by simp [va])
 have va : p.slots[a] = 1 := Decidable.byContradiction va
 simp -implicitDefEqProofs (disch := omega) only [go_sem, hb, hb2, za, hba, hra, hrb, hrc, va, Bool.not_true, Bool.not_false]
 exact key (by simp [va])
end Go.Proofs.Ytjljolnhmmbkoaa
