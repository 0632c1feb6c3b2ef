/- What is proved: the document's own third rule is the program's, instruction by instruction. slices of bools, as they are read; what both ways have written. what was written at each place, as the document's own check holds it. Conditions: as each theorem says. -/
import Derived.Test.YtjljolnhmmbkoaaValE
import Derived.Test.YtjljolnhmmbkoaaValD
set_option linter.unusedVariables false
set_option linter.unusedSimpArgs false
set_option linter.unusedSectionVars false
namespace Go.Proofs.Ytjljolnhmmbkoaa
open Go.Eng Go.Plain
set_option autoImplicit false
set_option maxRecDepth 100000
variable {nat : ∀ [Deep], Nats}
set_option maxHeartbeats 4000000 in
theorem fits_14 (U : Usual nat) {η : HN} {z : PV} {p : PD} {pc a b c : Nat} {Q : AV → HN → Prop} (hp : IsP η z p) (hf : Fine p) (ht : thereF p pc ⟨14, a, b, c⟩ = true) (h : ∀ η', ExtB η.nx η η' → Q (.bool (kindsF p ⟨14, a, b, c⟩)) η') : ∃ v η', CallN Try.prog nat 47 [.agg z.cells, .agg (Ins.cells ⟨14, a, b, c⟩)] η v η' ∧ Q v η' := by
 refine call_of (PT := pl47) Try.func47 rfl (U 47 (by decide)) ok47 rfl ?_
 have h1 := hf.ins.1
 have h2 := hf.outs.1
 have h3 := hf.slots.1
 have h4 := hf.mems.1
 have h5 := hf.consts.1
 have hcs : Ins.cells ⟨14, a, b, c⟩ = [.int .i64 14, .int .i64 a, .int .i64 b, .int .i64 c] := rfl
 have E : ExtB η.nx η ((η.new (.live false [z.z1, z.z2, z.z3, z.z4, z.z5, z.z6])).new (.live false [.int .i64 14, .int .i64 a, .int .i64 b, .int .i64 c])) := extN (extN (.refl _ _))
 have hb : ((η.new (.live false [z.z1, z.z2, z.z3, z.z4, z.z5, z.z6])).new (.live false [.int .i64 14, .int .i64 a, .int .i64 b, .int .i64 c])).f η.nx = .live false z.cells := by show (if η.nx = η.nx + 1 then _ else if η.nx = η.nx then _ else _) = _; rw [if_neg (by omega), if_pos rfl]
 have hb2 : ((η.new (.live false [z.z1, z.z2, z.z3, z.z4, z.z5, z.z6])).new (.live false [.int .i64 14, .int .i64 a, .int .i64 b, .int .i64 c])).f (η.nx + 1) = .live false [.int .i64 14, .int .i64 a, .int .i64 b, .int .i64 c] := by show (if η.nx + 1 = η.nx + 1 then _ else _) = _; rw [if_pos rfl]
 have hq := hp.ext E
 have ht : (true && (has p.slots a && (has p.slots b && has p.slots c))) = true := ht
 have key : ∀ {v : Bool}, (isF p 1 a && (isF p 2 b && isF p 2 c)) = v → Q (.bool v) ((η.new (.live false [z.z1, z.z2, z.z3, z.z4, z.z5, z.z6])).new (.live false [.int .i64 14, .int .i64 a, .int .i64 b, .int .i64 c])) := fun e => by rw [← e]; exact h _ E
 unfold isF at key
 clear h
 simp -implicitDefEqProofs (disch := omega) only [go_sem, hcs]
 generalize ((η.new (.live false [z.z1, z.z2, z.z3, z.z4, z.z5, z.z6])).new (.live false [.int .i64 14, .int .i64 a, .int .i64 b, .int .i64 c])) = η1 at *
 have ht := (and_lt ht).2
 obtain ⟨t1, ht⟩ := and_lt ht
 obtain ⟨t2, t3⟩ := and_lt ht
 obtain ⟨ba, offa, capa, roa, rowa, za, hba, hna, hra⟩ := hq.slots.at (has_lt t1)
 have ua := has_lt t1
 obtain ⟨bb, offb, capb, rob, rowb, zb, hbb, hnb, hrb⟩ := hq.slots.at (has_lt t2)
 have ub := has_lt t2
 rw [za] at zb
 cases zb
 rw [hba] at hbb
 cases hbb
 obtain ⟨bc, offc, capc, roc, rowc, zc, hbc, hnc, hrc⟩ := hq.slots.at (has_lt t3)
 have uc := has_lt t3
 rw [za] at zc
 cases zc
 rw [hba] at hbc
 cases hbc
 rw [getD_get _ _ ua, getD_get _ _ ub, getD_get _ _ uc] at key
 by_cases va : p.slots[a] ≠ 1
 ·simp -implicitDefEqProofs (disch := omega) only [go_sem, hb, hb2, za, hba, hra, hrb, hrc, Bool.not_true, Bool.not_false]
  exact key (by simp [va])
 have va : p.slots[a] = 1 := Decidable.byContradiction va
 by_cases vb : p.slots[b] ≠ 2
 ·simp -implicitDefEqProofs (disch := omega) only [go_sem, hb, hb2, za, hba, hra, hrb, hrc, va, Bool.not_true, Bool.not_false]
  exact key (by simp [va, vb])
 have vb : p.slots[b] = 2 := Decidable.byContradiction vb
 by_cases vc : p.slots[c] ≠ 2
 ·simp -implicitDefEqProofs (disch := omega) only [go_sem, hb, hb2, za, hba, hra, hrb, hrc, va, vb, Bool.not_true, Bool.not_false]
  exact key (by simp [va, vb, vc])
 have vc : p.slots[c] = 2 := Decidable.byContradiction vc
 simp -implicitDefEqProofs (disch := omega) only [go_sem, hb, hb2, za, hba, hra, hrb, hrc, va, vb, vc, Bool.not_true, Bool.not_false]
 exact key (by simp [va, vb, vc])
set_option maxHeartbeats 4000000 in
theorem fits_15 (U : Usual nat) {η : HN} {z : PV} {p : PD} {pc a b c : Nat} {Q : AV → HN → Prop} (hp : IsP η z p) (hf : Fine p) (ht : thereF p pc ⟨15, a, b, c⟩ = true) (h : ∀ η', ExtB η.nx η η' → Q (.bool (kindsF p ⟨15, a, b, c⟩)) η') : ∃ v η', CallN Try.prog nat 47 [.agg z.cells, .agg (Ins.cells ⟨15, a, b, c⟩)] η v η' ∧ Q v η' := by
 refine call_of (PT := pl47) Try.func47 rfl (U 47 (by decide)) ok47 rfl ?_
 have h1 := hf.ins.1
 have h2 := hf.outs.1
 have h3 := hf.slots.1
 have h4 := hf.mems.1
 have h5 := hf.consts.1
 have hcs : Ins.cells ⟨15, a, b, c⟩ = [.int .i64 15, .int .i64 a, .int .i64 b, .int .i64 c] := rfl
 have E : ExtB η.nx η ((η.new (.live false [z.z1, z.z2, z.z3, z.z4, z.z5, z.z6])).new (.live false [.int .i64 15, .int .i64 a, .int .i64 b, .int .i64 c])) := extN (extN (.refl _ _))
 have hb : ((η.new (.live false [z.z1, z.z2, z.z3, z.z4, z.z5, z.z6])).new (.live false [.int .i64 15, .int .i64 a, .int .i64 b, .int .i64 c])).f η.nx = .live false z.cells := by show (if η.nx = η.nx + 1 then _ else if η.nx = η.nx then _ else _) = _; rw [if_neg (by omega), if_pos rfl]
 have hb2 : ((η.new (.live false [z.z1, z.z2, z.z3, z.z4, z.z5, z.z6])).new (.live false [.int .i64 15, .int .i64 a, .int .i64 b, .int .i64 c])).f (η.nx + 1) = .live false [.int .i64 15, .int .i64 a, .int .i64 b, .int .i64 c] := by show (if η.nx + 1 = η.nx + 1 then _ else _) = _; rw [if_pos rfl]
 have hq := hp.ext E
 have ht : (true && (has p.slots a && (has p.slots b && has p.slots c))) = true := ht
 have key : ∀ {v : Bool}, (isF p 1 a && (isF p 2 b && isF p 2 c)) = v → Q (.bool v) ((η.new (.live false [z.z1, z.z2, z.z3, z.z4, z.z5, z.z6])).new (.live false [.int .i64 15, .int .i64 a, .int .i64 b, .int .i64 c])) := fun e => by rw [← e]; exact h _ E
 unfold isF at key
 clear h
 simp -implicitDefEqProofs (disch := omega) only [go_sem, hcs]
 generalize ((η.new (.live false [z.z1, z.z2, z.z3, z.z4, z.z5, z.z6])).new (.live false [.int .i64 15, .int .i64 a, .int .i64 b, .int .i64 c])) = η1 at *
 have ht := (and_lt ht).2
 obtain ⟨t1, ht⟩ := and_lt ht
 obtain ⟨t2, t3⟩ := and_lt ht
 obtain ⟨ba, offa, capa, roa, rowa, za, hba, hna, hra⟩ := hq.slots.at (has_lt t1)
 have ua := has_lt t1
 obtain ⟨bb, offb, capb, rob, rowb, zb, hbb, hnb, hrb⟩ := hq.slots.at (has_lt t2)
 have ub := has_lt t2
 rw [za] at zb
 cases zb
 rw [hba] at hbb
 cases hbb
 obtain ⟨bc, offc, capc, roc, rowc, zc, hbc, hnc, hrc⟩ := hq.slots.at (has_lt t3)
 have uc := has_lt t3
 rw [za] at zc
 cases zc
 rw [hba] at hbc
 cases hbc
 rw [getD_get _ _ ua, getD_get _ _ ub, getD_get _ _ uc] at key
 by_cases va : p.slots[a] ≠ 1
 ·simp -implicitDefEqProofs (disch := omega) only [go_sem, hb, hb2, za, hba, hra, hrb, hrc, Bool.not_true, Bool.not_false]
  exact key (by simp [va])
 have va : p.slots[a] = 1 := Decidable.byContradiction va
 by_cases vb : p.slots[b] ≠ 2
 ·simp -implicitDefEqProofs (disch := omega) only [go_sem, hb, hb2, za, hba, hra, hrb, hrc, va, Bool.not_true, Bool.not_false]
  exact key (by simp [va, vb])
 have vb : p.slots[b] = 2 := Decidable.byContradiction vb
 by_cases vc : p.slots[c] ≠ 2
 ·simp -implicitDefEqProofs (disch := omega) only [go_sem, hb, hb2, za, hba, hra, hrb, hrc, va, vb, Bool.not_true, Bool.not_false]
  exact key (by simp [va, vb, vc])
 have vc : p.slots[c] = 2 := Decidable.byContradiction vc
 simp -implicitDefEqProofs (disch := omega) only [go_sem, hb, hb2, za, hba, hra, hrb, hrc, va, vb, vc, Bool.not_true, Bool.not_false]
 exact key (by simp [va, vb, vc])
set_option maxHeartbeats 4000000 in
theorem fits_16 (U : Usual nat) {η : HN} {z : PV} {p : PD} {pc a b c : Nat} {Q : AV → HN → Prop} (hp : IsP η z p) (hf : Fine p) (ht : thereF p pc ⟨16, a, b, c⟩ = true) (h : ∀ η', ExtB η.nx η η' → Q (.bool (kindsF p ⟨16, a, b, c⟩)) η') : ∃ v η', CallN Try.prog nat 47 [.agg z.cells, .agg (Ins.cells ⟨16, a, b, c⟩)] η v η' ∧ Q v η' := by
 refine call_of (PT := pl47) Try.func47 rfl (U 47 (by decide)) ok47 rfl ?_
 have h1 := hf.ins.1
 have h2 := hf.outs.1
 have h3 := hf.slots.1
 have h4 := hf.mems.1
 have h5 := hf.consts.1
 have hcs : Ins.cells ⟨16, a, b, c⟩ = [.int .i64 16, .int .i64 a, .int .i64 b, .int .i64 c] := rfl
 have E : ExtB η.nx η ((η.new (.live false [z.z1, z.z2, z.z3, z.z4, z.z5, z.z6])).new (.live false [.int .i64 16, .int .i64 a, .int .i64 b, .int .i64 c])) := extN (extN (.refl _ _))
 have hb : ((η.new (.live false [z.z1, z.z2, z.z3, z.z4, z.z5, z.z6])).new (.live false [.int .i64 16, .int .i64 a, .int .i64 b, .int .i64 c])).f η.nx = .live false z.cells := by show (if η.nx = η.nx + 1 then _ else if η.nx = η.nx then _ else _) = _; rw [if_neg (by omega), if_pos rfl]
 have hb2 : ((η.new (.live false [z.z1, z.z2, z.z3, z.z4, z.z5, z.z6])).new (.live false [.int .i64 16, .int .i64 a, .int .i64 b, .int .i64 c])).f (η.nx + 1) = .live false [.int .i64 16, .int .i64 a, .int .i64 b, .int .i64 c] := by show (if η.nx + 1 = η.nx + 1 then _ else _) = _; rw [if_pos rfl]
 have hq := hp.ext E
 have ht : (true && (has p.slots a && (has p.slots b && has p.slots c))) = true := ht
 have key : ∀ {v : Bool}, (isF p 1 a && (isF p 1 b && isF p 1 c)) = v → Q (.bool v) ((η.new (.live false [z.z1, z.z2, z.z3, z.z4, z.z5, z.z6])).new (.live false [.int .i64 16, .int .i64 a, .int .i64 b, .int .i64 c])) := fun e => by rw [← e]; exact h _ E
 unfold isF at key
 clear h
 simp -implicitDefEqProofs (disch := omega) only [go_sem, hcs]
 generalize ((η.new (.live false [z.z1, z.z2, z.z3, z.z4, z.z5, z.z6])).new (.live false [.int .i64 16, .int .i64 a, .int .i64 b, .int .i64 c])) = η1 at *
 have ht := (and_lt ht).2
 obtain ⟨t1, ht⟩ := and_lt ht
 obtain ⟨t2, t3⟩ := and_lt ht
 obtain ⟨ba, offa, capa, roa, rowa, za, hba, hna, hra⟩ := hq.slots.at (has_lt t1)
 have ua := has_lt t1
 obtain ⟨bb, offb, capb, rob, rowb, zb, hbb, hnb, hrb⟩ := hq.slots.at (has_lt t2)
 have ub := has_lt t2
 rw [za] at zb
 cases zb
 rw [hba] at hbb
 cases hbb
 obtain ⟨bc, offc, capc, roc, rowc, zc, hbc, hnc, hrc⟩ := hq.slots.at (has_lt t3)
 have uc := has_lt t3
 rw [za] at zc
 cases zc
 rw [hba] at hbc
 cases hbc
 rw [getD_get _ _ ua, getD_get _ _ ub, getD_get _ _ uc] at key
 by_cases va : p.slots[a] ≠ 1
 ·simp -implicitDefEqProofs (disch := omega) only [go_sem, hb, hb2, za, hba, hra, hrb, hrc, Bool.not_true, Bool.not_false]
  exact key (by simp [va])
 have va : p.slots[a] = 1 := Decidable.byContradiction va
 by_cases vb : p.slots[b] ≠ 1
 ·simp -implicitDefEqProofs (disch := omega) only [go_sem, hb, hb2, za, hba, hra, hrb, hrc, va, Bool.not_true, Bool.not_false]
  exact key (by simp [va, vb])
 have vb : p.slots[b] = 1 := Decidable.byContradiction vb
 by_cases vc : p.slots[c] ≠ 1
 ·simp -implicitDefEqProofs (disch := omega) only [go_sem, hb, hb2, za, hba, hra, hrb, hrc, va, vb, Bool.not_true, Bool.not_false]
  exact key (by simp [va, vb, vc])
 have vc : p.slots[c] = 1 := Decidable.byContradiction vc
 simp -implicitDefEqProofs (disch := omega) only [go_sem, hb, hb2, za, hba, hra, hrb, hrc, va, vb, vc, Bool.not_true, Bool.not_false]
 exact key (by simp [va, vb, vc])
set_option maxHeartbeats 4000000 in
theorem fits_17 (U : Usual nat) {η : HN} {z : PV} {p : PD} {pc a b c : Nat} {Q : AV → HN → Prop} (hp : IsP η z p) (hf : Fine p) (ht : thereF p pc ⟨17, a, b, c⟩ = true) (h : ∀ η', ExtB η.nx η η' → Q (.bool (kindsF p ⟨17, a, b, c⟩)) η') : ∃ v η', CallN Try.prog nat 47 [.agg z.cells, .agg (Ins.cells ⟨17, a, b, c⟩)] η v η' ∧ Q v η' := by
 refine call_of (PT := pl47) Try.func47 rfl (U 47 (by decide)) ok47 rfl ?_
 have h1 := hf.ins.1
 have h2 := hf.outs.1
 have h3 := hf.slots.1
 have h4 := hf.mems.1
 have h5 := hf.consts.1
 have hcs : Ins.cells ⟨17, a, b, c⟩ = [.int .i64 17, .int .i64 a, .int .i64 b, .int .i64 c] := rfl
 have E : ExtB η.nx η ((η.new (.live false [z.z1, z.z2, z.z3, z.z4, z.z5, z.z6])).new (.live false [.int .i64 17, .int .i64 a, .int .i64 b, .int .i64 c])) := extN (extN (.refl _ _))
 have hb : ((η.new (.live false [z.z1, z.z2, z.z3, z.z4, z.z5, z.z6])).new (.live false [.int .i64 17, .int .i64 a, .int .i64 b, .int .i64 c])).f η.nx = .live false z.cells := by show (if η.nx = η.nx + 1 then _ else if η.nx = η.nx then _ else _) = _; rw [if_neg (by omega), if_pos rfl]
 have hb2 : ((η.new (.live false [z.z1, z.z2, z.z3, z.z4, z.z5, z.z6])).new (.live false [.int .i64 17, .int .i64 a, .int .i64 b, .int .i64 c])).f (η.nx + 1) = .live false [.int .i64 17, .int .i64 a, .int .i64 b, .int .i64 c] := by show (if η.nx + 1 = η.nx + 1 then _ else _) = _; rw [if_pos rfl]
 have hq := hp.ext E
 have ht : (true && (has p.slots a && (has p.slots b && has p.slots c))) = true := ht
 have key : ∀ {v : Bool}, (isF p 1 a && (isF p 1 b && isF p 1 c)) = v → Q (.bool v) ((η.new (.live false [z.z1, z.z2, z.z3, z.z4, z.z5, z.z6])).new (.live false [.int .i64 17, .int .i64 a, .int .i64 b, .int .i64 c])) := fun e => by rw [← e]; exact h _ E
 unfold isF at key
 clear h
 simp -implicitDefEqProofs (disch := omega) only [go_sem, hcs]
 generalize ((η.new (.live false [z.z1, z.z2, z.z3, z.z4, z.z5, z.z6])).new (.live false [.int .i64 17, .int .i64 a, .int .i64 b, .int .i64 c])) = η1 at *
 have ht := (and_lt ht).2
 obtain ⟨t1, ht⟩ := and_lt ht
 obtain ⟨t2, t3⟩ := and_lt ht
 obtain ⟨ba, offa, capa, roa, rowa, za, hba, hna, hra⟩ := hq.slots.at (has_lt t1)
 have ua := has_lt t1
 obtain ⟨bb, offb, capb, rob, rowb, zb, hbb, hnb, hrb⟩ := hq.slots.at (has_lt t2)
 have ub := has_lt t2
 rw [za] at zb
 cases zb
 rw [hba] at hbb
 cases hbb
 obtain ⟨bc, offc, capc, roc, rowc, zc, hbc, hnc, hrc⟩ := hq.slots.at (has_lt t3)
 have uc := has_lt t3
 rw [za] at zc
 cases zc
 rw [hba] at hbc
 cases hbc
 rw [getD_get _ _ ua, getD_get _ _ ub, getD_get _ _ uc] at key
 by_cases va : p.slots[a] ≠ 1
 ·simp -implicitDefEqProofs (disch := omega) only [go_sem, hb, hb2, za, hba, hra, hrb, hrc, Bool.not_true, Bool.not_false]
  exact key (by simp [va])
 have va : p.slots[a] = 1 := Decidable.byContradiction va
 by_cases vb : p.slots[b] ≠ 1
 ·simp -implicitDefEqProofs (disch := omega) only [go_sem, hb, hb2, za, hba, hra, hrb, hrc, va, Bool.not_true, Bool.not_false]
  exact key (by simp [va, vb])
 have vb : p.slots[b] = 1 := Decidable.byContradiction vb
 by_cases vc : p.slots[c] ≠ 1
 ·simp -implicitDefEqProofs (disch := omega) only [go_sem, hb, hb2, za, hba, hra, hrb, hrc, va, vb, Bool.not_true, Bool.not_false]
  exact key (by simp [va, vb, vc])
 have vc : p.slots[c] = 1 := Decidable.byContradiction vc
 simp -implicitDefEqProofs (disch := omega) only [go_sem, hb, hb2, za, hba, hra, hrb, hrc, va, vb, vc, Bool.not_true, Bool.not_false]
 exact key (by simp [va, vb, vc])
set_option maxHeartbeats 4000000 in
theorem fits_18 (U : Usual nat) {η : HN} {z : PV} {p : PD} {pc a b c : Nat} {Q : AV → HN → Prop} (hp : IsP η z p) (hf : Fine p) (ht : thereF p pc ⟨18, a, b, c⟩ = true) (h : ∀ η', ExtB η.nx η η' → Q (.bool (kindsF p ⟨18, a, b, c⟩)) η') : ∃ v η', CallN Try.prog nat 47 [.agg z.cells, .agg (Ins.cells ⟨18, a, b, c⟩)] η v η' ∧ Q v η' := by
 refine call_of (PT := pl47) Try.func47 rfl (U 47 (by decide)) ok47 rfl ?_
 have h1 := hf.ins.1
 have h2 := hf.outs.1
 have h3 := hf.slots.1
 have h4 := hf.mems.1
 have h5 := hf.consts.1
 have hcs : Ins.cells ⟨18, a, b, c⟩ = [.int .i64 18, .int .i64 a, .int .i64 b, .int .i64 c] := rfl
 have E : ExtB η.nx η ((η.new (.live false [z.z1, z.z2, z.z3, z.z4, z.z5, z.z6])).new (.live false [.int .i64 18, .int .i64 a, .int .i64 b, .int .i64 c])) := extN (extN (.refl _ _))
 have hb : ((η.new (.live false [z.z1, z.z2, z.z3, z.z4, z.z5, z.z6])).new (.live false [.int .i64 18, .int .i64 a, .int .i64 b, .int .i64 c])).f η.nx = .live false z.cells := by show (if η.nx = η.nx + 1 then _ else if η.nx = η.nx then _ else _) = _; rw [if_neg (by omega), if_pos rfl]
 have hb2 : ((η.new (.live false [z.z1, z.z2, z.z3, z.z4, z.z5, z.z6])).new (.live false [.int .i64 18, .int .i64 a, .int .i64 b, .int .i64 c])).f (η.nx + 1) = .live false [.int .i64 18, .int .i64 a, .int .i64 b, .int .i64 c] := by show (if η.nx + 1 = η.nx + 1 then _ else _) = _; rw [if_pos rfl]
 have hq := hp.ext E
 have ht : (true && (has p.slots a && (has p.slots b && has p.slots c))) = true := ht
 have key : ∀ {v : Bool}, (isF p 1 a && (isF p 1 b && isF p 1 c)) = v → Q (.bool v) ((η.new (.live false [z.z1, z.z2, z.z3, z.z4, z.z5, z.z6])).new (.live false [.int .i64 18, .int .i64 a, .int .i64 b, .int .i64 c])) := fun e => by rw [← e]; exact h _ E
 unfold isF at key
 clear h
 simp -implicitDefEqProofs (disch := omega) only [go_sem, hcs]
 generalize ((η.new (.live false [z.z1, z.z2, z.z3, z.z4, z.z5, z.z6])).new (.live false [.int .i64 18, .int .i64 a, .int .i64 b, .int .i64 c])) = η1 at *
 have ht := (and_lt ht).2
 obtain ⟨t1, ht⟩ := and_lt ht
 obtain ⟨t2, t3⟩ := and_lt ht
 obtain ⟨ba, offa, capa, roa, rowa, za, hba, hna, hra⟩ := hq.slots.at (has_lt t1)
 have ua := has_lt t1
 obtain ⟨bb, offb, capb, rob, rowb, zb, hbb, hnb, hrb⟩ := hq.slots.at (has_lt t2)
 have ub := has_lt t2
 rw [za] at zb
 cases zb
 rw [hba] at hbb
 cases hbb
 obtain ⟨bc, offc, capc, roc, rowc, zc, hbc, hnc, hrc⟩ := hq.slots.at (has_lt t3)
 have uc := has_lt t3
 rw [za] at zc
 cases zc
 rw [hba] at hbc
 cases hbc
 rw [getD_get _ _ ua, getD_get _ _ ub, getD_get _ _ uc] at key
 by_cases va : p.slots[a] ≠ 1
 ·simp -implicitDefEqProofs (disch := omega) only [go_sem, hb, hb2, za, hba, hra, hrb, hrc, Bool.not_true, Bool.not_false]
  exact key (by simp [va])
 have va : p.slots[a] = 1 := Decidable.byContradiction va
 by_cases vb : p.slots[b] ≠ 1
 ·simp -implicitDefEqProofs (disch := omega) only [go_sem, hb, hb2, za, hba, hra, hrb, hrc, va, Bool.not_true, Bool.not_false]
  exact key (by simp [va, vb])
 have vb : p.slots[b] = 1 := Decidable.byContradiction vb
 by_cases vc : p.slots[c] ≠ 1
 ·simp -implicitDefEqProofs (disch := omega) only [go_sem, hb, hb2, za, hba, hra, hrb, hrc, va, vb, Bool.not_true, Bool.not_false]
  exact key (by simp [va, vb, vc])
 have vc : p.slots[c] = 1 := Decidable.byContradiction vc
 simp -implicitDefEqProofs (disch := omega) only [go_sem, hb, hb2, za, hba, hra, hrb, hrc, va, vb, vc, Bool.not_true, Bool.not_false]
 exact key (by simp [va, vb, vc])
theorem fits_then (U : Usual nat) {η : HN} {z : PV} {p : PD} {pc : Nat} {i : Ins} {Q : AV → HN → Prop} (hp : IsP η z p) (hf : Fine p) (ht : thereF p pc i = true) (h : ∀ η', ExtB η.nx η η' → Q (.bool (kindsF p i)) η') : ∃ v η', CallN Try.prog nat 47 [.agg z.cells, .agg i.cells] η v η' ∧ Q v η' := by
 have hop := (there_facts ht).1
 obtain ⟨op, a, b, c⟩ := i
 dsimp only at hop
 by_cases q0 : op = 0
 ·subst q0; exact fits_0 U hp hf ht h
 by_cases q1 : op = 1
 ·subst q1; exact fits_1 U hp hf ht h
 by_cases q2 : op = 2
 ·subst q2; exact fits_2 U hp hf ht h
 by_cases q3 : op = 3
 ·subst q3; exact fits_3 U hp hf ht h
 by_cases q4 : op = 4
 ·subst q4; exact fits_4 U hp hf ht h
 by_cases q5 : op = 5
 ·subst q5; exact fits_5 U hp hf ht h
 by_cases q6 : op = 6
 ·subst q6; exact fits_6 U hp hf ht h
 by_cases q7 : op = 7
 ·subst q7; exact fits_7 U hp hf ht h
 by_cases q8 : op = 8
 ·subst q8; exact fits_8 U hp hf ht h
 by_cases q9 : op = 9
 ·subst q9; exact fits_9 U hp hf ht h
 by_cases q10 : op = 10
 ·subst q10; exact fits_10 U hp hf ht h
 by_cases q11 : op = 11
 ·subst q11; exact fits_11 U hp hf ht h
 by_cases q12 : op = 12
 ·subst q12; exact fits_12 U hp hf ht h
 by_cases q13 : op = 13
 ·subst q13; exact fits_13 U hp hf ht h
 by_cases q14 : op = 14
 ·subst q14; exact fits_14 U hp hf ht h
 by_cases q15 : op = 15
 ·subst q15; exact fits_15 U hp hf ht h
 by_cases q16 : op = 16
 ·subst q16; exact fits_16 U hp hf ht h
 by_cases q17 : op = 17
 ·subst q17; exact fits_17 U hp hf ht h
 by_cases q18 : op = 18
 ·subst q18; exact fits_18 U hp hf ht h
 by_cases q19 : op = 19
 ·subst q19; exact fits_19 U hp hf ht h
 by_cases q20 : op = 20
 ·subst q20; exact fits_20 U hp hf ht h
 omega
end Go.Proofs.Ytjljolnhmmbkoaa
namespace Go.Proofs.Ytjljolnhmmbkoaa
open Go.Eng Go.Plain
set_option autoImplicit false
set_option maxRecDepth 100000
variable {nat : ∀ [Deep], Nats}
def boolsA (l : List Bool) : List AV := l.map .bool
theorem boolsA_len (l : List Bool) : (boolsA l).length = l.length := List.length_map _
theorem boolsA_at {l : List Bool} {i : Nat} (h : i < l.length) : (boolsA l)[i]? = some (.bool (l.getD i false)) := by
 unfold boolsA
 rw [List.getElem?_map, List.getElem?_eq_getElem h, List.getD_eq_getElem?_getD, List.getElem?_eq_getElem h]; rfl
theorem boolsA_set (l : List Bool) (i : Nat) (b : Bool) : (boolsA l).set i (.bool b) = boolsA (l.set i b) := by unfold boolsA; rw [List.map_set]
theorem app_bools {η : HN} {b : Nat} {cap : Cp} {l : List Bool} (hb : η.f b = .live false (boolsA l)) (hbn : b < η.nx) (hl : l.length ≤ 1099511627776) :
  ∃ v η', apSrcN 1 1 (.slice η.nx 0 0 (.kn 0)) (.slice b 0 l.length cap) (η.new (.live false [])) = .ok v η' ∧ (∃ c cap', v = .slice c 0 l.length cap' ∧ η.nx ≤ c ∧ c < η'.nx ∧ η'.f c = .live false (boolsA l)) ∧ ExtB η.nx η η' := by
 have hul := boolsA_len l
 by_cases h0 : l.length = 0
 ·obtain rfl : l = [] := List.eq_nil_of_length_eq_zero h0
  refine ⟨.slice η.nx 0 0 (.kn 0), η.new (.live false []), ?_, ⟨η.nx, .kn 0, rfl, Nat.le_refl _, Nat.lt_succ_self _, by show (if η.nx = η.nx then _ else _) = _; rw [if_pos rfl]; rfl⟩, extN (.refl _ _)⟩
  simp -implicitDefEqProofs (disch := omega) only [go_sem, apSrc_sl, List.length_nil]
 ·have hb1 : (η.new (.live false [])).f b = .live false (boolsA l) := by show (if b = η.nx then _ else _) = _; rw [if_neg (by omega)]; exact hb
  have hrow : rowN (.live false (boolsA l)) 0 (l.length * 1) = some (boolsA l) := by
   rw [Nat.mul_one, rowN_at, if_pos (by omega), List.drop_zero, List.take_of_length_le (by omega)]
  refine ⟨.slice (η.nx + 1) 0 l.length (.un 1), (η.new (.live false [])).new (.live false (boolsA l)), ?_, ⟨η.nx + 1, .un 1, rfl, Nat.le_succ _, Nat.lt_succ_self _, by show (if η.nx + 1 = η.nx + 1 then _ else _) = _; rw [if_pos rfl]⟩, extN (extN (.refl _ _))⟩
  simp -implicitDefEqProofs (disch := omega) only [go_sem, apSrc_sl, hb, hrow, apKn_new]
def boI2 (η0 : HN) (ya yb : AV) (A : Nat) (l m : List Bool) (k : Nat) (φ : FN) (η : HN) : Prop := ∃ i, k = l.length - i ∧ i ≤ l.length ∧ φ 0 = ya ∧ φ 1 = yb ∧ φ 5 = .slice A 0 l.length (.kn l.length) ∧ φ 6 = .int .i64 i ∧ η = η0.put A (.live false (boolsA ((List.zipWith and l m).take i ++ List.replicate (l.length - i) false)))
theorem zip_len {l m : List Bool} (h : l.length = m.length) : (List.zipWith and l m).length = l.length := by rw [List.length_zipWith]; omega
theorem zip_fill {l m : List Bool} (h : l.length = m.length) {i : Nat} (hi : i < l.length) : ((List.zipWith and l m).take i ++ List.replicate (l.length - i) false).set i (l.getD i false && m.getD i false) = (List.zipWith and l m).take (i + 1) ++ List.replicate (l.length - (i + 1)) false := by
 have hl : ((List.zipWith and l m).take i).length = i := by rw [List.length_take, zip_len h]; omega
 rw [List.set_append, if_neg (by omega), hl, Nat.sub_self, show l.length - i = l.length - (i + 1) + 1 by omega, List.replicate_succ, List.set_cons_zero, List.take_succ_eq_append_getElem (by rw [zip_len h]; exact hi), List.append_assoc, List.getElem_zipWith]
 rw [List.getD_eq_getElem?_getD, List.getElem?_eq_getElem hi, List.getD_eq_getElem?_getD, List.getElem?_eq_getElem (by omega)]; rfl
theorem both_nil (U : Usual nat) {η : HN} {b : Nat} {cap : Cp} {l : List Bool} {Q : AV → HN → Prop} (hb : η.f b = .live false (boolsA l)) (hbn : b < η.nx) (hl : l.length ≤ 1099511627776)
  (h : ∀ b cap η', η.nx ≤ b → b < η'.nx → η'.f b = .live false (boolsA l) → ExtB η.nx η η' → Q (.slice b 0 l.length cap) η') : ∃ v η', CallN Try.prog nat 50 [.nilslice, .slice b 0 l.length cap] η v η' ∧ Q v η' := by
 refine call_of (PT := pl50) Try.func50 rfl (U 50 (by decide)) ok50 rfl ?_
 obtain ⟨v, η', e, ⟨c, cap', rfl, c1, c2, c3⟩, E⟩ := app_bools (cap := cap) hb hbn hl
 simp -implicitDefEqProofs (disch := omega) only [go_sem, e]
 exact h _ _ _ c1 c2 c3 E
set_option maxHeartbeats 1000000 in
theorem both_some (U : Usual nat) {η : HN} {b c : Nat} {cap cap2 : Cp} {l m : List Bool} {Q : AV → HN → Prop} (hb : η.f b = .live false (boolsA l)) (hbn : b < η.nx) (hc : η.f c = .live false (boolsA m)) (hcn : c < η.nx) (hlm : l.length = m.length) (hl : l.length ≤ 1099511627776)
  (h : ∀ b cap η', η.nx ≤ b → b < η'.nx → η'.f b = .live false (boolsA (List.zipWith and l m)) → ExtB η.nx η η' → Q (.slice b 0 l.length cap) η') : ∃ v η', CallN Try.prog nat 50 [.slice b 0 l.length cap, .slice c 0 m.length cap2] η v η' ∧ Q v η' := by
 refine call_of (PT := pl50) Try.func50 rfl (U 50 (by decide)) ok50 rfl ?_
 have hcp : ¬1 = 0 ∧ l.length ≤ 140737488355328 := ⟨by decide, by omega⟩
 have hul := boolsA_len l
 have hum := boolsA_len m
 have hrep : List.replicate l.length (AV.bool false) = boolsA (List.replicate l.length false) := by unfold boolsA; rw [List.map_replicate]
 simp -implicitDefEqProofs (disch := omega) only [go_sem, if_pos hcp, hrep]
 have E1 : ExtB η.nx η (η.new (.live false (boolsA (List.replicate l.length false)))) := extN (.refl _ _)
 have x1 : (η.new (.live false (boolsA (List.replicate l.length false)))).f η.nx = .live false (boolsA (List.replicate l.length false)) := by show (if η.nx = η.nx then _ else _) = _; rw [if_pos rfl]
 have n1 : (η.new (.live false (boolsA (List.replicate l.length false)))).nx = η.nx + 1 := rfl
 generalize η.new (.live false (boolsA (List.replicate l.length false))) = η1 at *
 have hb1 := (E1.2 _ hbn).trans hb
 have hc1 := (E1.2 _ hcn).trans hc
 refine wpN_loop (boI2 η1 (.slice b 0 l.length cap) (.slice c 0 m.length cap2) η.nx l m) l.length ⟨0, by omega, by omega, rfl, rfl, rfl, rfl, (put_self (by rw [x1]; rfl)).symm⟩ ?_
 rintro k φ η2 ⟨i, hk, hi, p0, p1, p5, p6, rfl⟩
 by_cases hlt : i < l.length
 ·have g1 := boolsA_at hlt
  have g2 := boolsA_at (l := m) (i := i) (by omega)
  have g3 := boolsA_len ((List.zipWith and l m).take i ++ List.replicate (l.length - i) false)
  have g4 : ((List.zipWith and l m).take i ++ List.replicate (l.length - i) false).length = l.length := by rw [List.length_append, List.length_take, List.length_replicate, zip_len hlm]; omega
  have fin : ∀ v : Bool, v = (l.getD i false && m.getD i false) → (boolsA ((List.zipWith and l m).take i ++ List.replicate (l.length - i) false)).set i (.bool v) = boolsA ((List.zipWith and l m).take (i + 1) ++ List.replicate (l.length - (i + 1)) false) := fun v e => by rw [boolsA_set, e, zip_fill hlm hlt]
  cases hx : l.getD i false with
  | true =>
   rw [hx] at g1
   simp -implicitDefEqProofs (disch := omega) only [go_sem, p0, p1, p5, p6, hb1, hc1, g1, g2]
   exact ⟨l.length - (i + 1), by omega, i + 1, rfl, by omega, p0, p1, p5, rfl, by rw [put_put, fin _ (by rw [hx]; rfl)]⟩
  | false =>
   rw [hx] at g1
   simp -implicitDefEqProofs (disch := omega) only [go_sem, p0, p1, p5, p6, hb1, hc1, g1, g2]
   exact ⟨l.length - (i + 1), by omega, i + 1, rfl, by omega, p0, p1, p5, rfl, by rw [put_put, fin _ (by rw [hx]; rfl)]⟩
 obtain rfl : i = l.length := by omega
 simp -implicitDefEqProofs (disch := omega) only [go_sem, p0, p1, p5, p6]
 have hz := zip_len hlm
 have hfull : (List.zipWith and l m).take l.length ++ List.replicate 0 false = List.zipWith and l m := by
  rw [List.replicate_zero, List.append_nil, List.take_of_length_le (by omega)]
 refine h _ _ _ (Nat.le_refl _) (by show η.nx < η1.nx; omega) ?_ (E1.trans (.put (Nat.le_refl _)))
 show (if η.nx = η.nx then _ else _) = _
 rw [if_pos rfl]
 exact congrArg (fun x => BN.live false (boolsA x)) hfull
end Go.Proofs.Ytjljolnhmmbkoaa
namespace Go.Plain
theorem go_order (i : Ins) (pc : Nat) (st : Nat → St) (d : List Bool × List Bool) : goF i pc st d = (let st1 := if i.op ≠ 20 then setF st (pc + 1) (meetF (st (pc + 1)) d) else st; if i.op = 19 ∨ i.op = 20 then setF st1 i.a (meetF (st1 i.a) d) else st1) := by
 unfold goF
 dsimp only
 by_cases h20 : i.op = 20
 ·simp [h20]
 ·by_cases h19 : i.op = 19
  ·simp only [h19, true_or, if_true, ne_eq, not_false_eq_true, reduceCtorEq, Nat.reduceEqDiff, if_false]
   by_cases ha : i.a = pc + 1
   ·rw [ha]
   ·have e1 : setF st i.a (meetF (st i.a) d) (pc + 1) = st (pc + 1) := if_neg (fun e => ha e.symm)
    have e2 : setF st (pc + 1) (meetF (st (pc + 1)) d) i.a = st i.a := if_neg ha
    rw [e1, e2]
    funext q
    unfold setF
    by_cases h1 : q = pc + 1
    ·rw [if_pos h1, if_neg (by omega), if_pos h1]
    ·rw [if_neg h1]
     by_cases h2 : q = i.a
     ·rw [if_pos h2, if_pos h2]
     ·rw [if_neg h2, if_neg h2, if_neg h1]
  ·simp [h19, h20]
end Go.Plain
namespace Go.Proofs.Ytjljolnhmmbkoaa
open Go.Eng Go.Plain
set_option autoImplicit false
set_option maxRecDepth 100000
variable {nat : ∀ [Deep], Nats}
def PlD (η : HN) (bl L : Nat) (row : List AV) (q : Nat) (x : St) : Prop := match x with
 | none => row[q]? = some .nilslice
 | some d => ∃ b cap, row[q]? = some (.slice b 0 L cap) ∧ b ≠ bl ∧ b < η.nx ∧ η.f b = .live false (boolsA (d.1 ++ d.2))
theorem PlD.of {η η' : HN} {bl L : Nat} {row row' : List AV} {q : Nat} {x : St} (h : PlD η bl L row q x) (hr : row'[q]? = row[q]?) (hn : η.nx ≤ η'.nx) (hk : ∀ b, b < η.nx → b ≠ bl → η'.f b = η.f b) : PlD η' bl L row' q x := by
 cases x with
 | none => exact hr.trans h
 | some d =>
  obtain ⟨b, cap, h1, h2, h3, h4⟩ := h
  exact ⟨b, cap, hr.trans h1, h2, by omega, (hk b h3 h2).trans h4⟩
structure DoneAt (η : HN) (bl n lo S O : Nat) (row : List AV) (st : Nat → St) : Prop where
 blk : η.f bl = .live false row
 len : row.length = n + 1
 at_ : ∀ q, lo ≤ q → q ≤ n → PlD η bl (S + O) row q (st q)
 lens : ∀ q d, lo ≤ q → st q = some d → d.1.length = S ∧ d.2.length = O
 bl : bl < η.nx
theorem DoneAt.up {η : HN} {bl n lo S O : Nat} {row : List AV} {st : Nat → St} (h : DoneAt η bl n lo S O row st) : DoneAt η bl n (lo + 1) S O row st :=
 ⟨h.blk, h.len, fun q a b => h.at_ q (by omega) b, fun q d a => h.lens q d (by omega), h.bl⟩
theorem DoneAt.ext {η η' : HN} {bl n lo S O : Nat} {row : List AV} {st : Nat → St} (h : DoneAt η bl n lo S O row st) (e : ExtB η.nx η η') : DoneAt η' bl n lo S O row st :=
 ⟨(e.2 _ h.bl).trans h.blk, h.len, fun q a b => (h.at_ q a b).of rfl e.1 fun x hx _ => e.2 x hx, h.lens, by have := e.1; have := h.bl; omega⟩
theorem bothD (U : Usual nat) {η : HN} {bl n lo S O q c : Nat} {cap : Cp} {row : List AV} {st : Nat → St} {d : List Bool × List Bool} (h : DoneAt η bl n lo S O row st) (hq : lo ≤ q) (hqn : q ≤ n) (hd : d.1.length = S ∧ d.2.length = O) (hc : η.f c = .live false (boolsA (d.1 ++ d.2))) (hcn : c < η.nx) (hL : S + O ≤ 1099511627776) :
  ∃ rv, row[q]? = some rv ∧ (∀ {Q : AV → HN → Prop}, (∀ b cap' η', ExtB η.nx η η' → b < η'.nx → DoneAt (η'.put bl (.live false (row.set q (.slice b 0 (S + O) cap')))) bl n lo S O (row.set q (.slice b 0 (S + O) cap')) (setF st q (meetF (st q) d)) → Q (.slice b 0 (S + O) cap') η') →
   ∃ v η', CallN Try.prog nat 50 [rv, .slice c 0 (S + O) cap] η v η' ∧ Q v η') := by
 have hbl := h.bl
 have hlen := h.len
 have dl : (d.1 ++ d.2).length = S + O := by rw [List.length_append, hd.1, hd.2]
 have fin : ∀ (b : Nat) (cap' : Cp) (η' : HN), ExtB η.nx η η' → η.nx ≤ b → b < η'.nx → η'.f b = .live false (boolsA ((meetF (st q) d).1 ++ (meetF (st q) d).2)) → DoneAt (η'.put bl (.live false (row.set q (.slice b 0 (S + O) cap')))) bl n lo S O (row.set q (.slice b 0 (S + O) cap')) (setF st q (meetF (st q) d)) := fun b cap' η' E h1 h2 h3 => by
  have e1 := E.1
  have hne : ∀ x, x ≠ bl → (η'.put bl (.live false (row.set q (.slice b 0 (S + O) cap')))).f x = η'.f x := fun x hx => by show (if x = bl then _ else _) = _; rw [if_neg hx]
  refine ⟨by show (if bl = bl then _ else _) = _; rw [if_pos rfl], by rw [List.length_set]; exact hlen, fun q' a1 a2 => ?_, fun q' e a1 he => ?_, by show bl < η'.nx; omega⟩
  ·by_cases hqq : q' = q
   ·subst hqq
    show PlD _ _ _ _ _ (if q' = q' then _ else _)
    rw [if_pos rfl]
    exact ⟨b, cap', List.getElem?_set_self (by omega), by omega, h2, (hne b (by omega)).trans h3⟩
   ·show PlD _ _ _ _ _ (if q' = q then _ else _)
    rw [if_neg hqq]
    exact (h.at_ q' a1 a2).of (List.getElem?_set_ne (fun e => hqq e.symm)) (by show η.nx ≤ η'.nx; omega) fun x hx hxb => (hne x hxb).trans (E.2 x hx)
  ·have he : (if q' = q then some (meetF (st q) d) else st q') = some e := he
   by_cases hqq : q' = q
   ·rw [if_pos hqq] at he
    cases he
    cases hs : st q with
    | none => exact hd
    | some y =>
     obtain ⟨l1, l2⟩ := h.lens q y hq hs
     show (List.zipWith _ _ _).length = S ∧ (List.zipWith _ _ _).length = O
     rw [List.length_zipWith, List.length_zipWith, l1, l2, hd.1, hd.2]
     omega
   ·rw [if_neg hqq] at he
    exact h.lens q' e a1 he
 have hp := h.at_ q hq hqn
 cases hs : st q with
 | none =>
  rw [hs] at hp fin
  refine ⟨.nilslice, hp, fun {Q} k => ?_⟩
  have := both_nil U (cap := cap) (Q := Q) hc hcn (by omega) fun b cap' η' h1 h2 h3 E => by rw [dl]; exact k b cap' η' E h2 (fin b cap' η' E h1 h2 h3)
  rw [dl] at this
  exact this
 | some y =>
  rw [hs] at hp fin
  obtain ⟨b0, cap0, r1, r2, r3, r4⟩ := hp
  obtain ⟨l1, l2⟩ := h.lens q y hq hs
  have yl : (y.1 ++ y.2).length = S + O := by rw [List.length_append, l1, l2]
  refine ⟨_, r1, fun {Q} k => ?_⟩
  have hz : List.zipWith and (y.1 ++ y.2) (d.1 ++ d.2) = List.zipWith and y.1 d.1 ++ List.zipWith and y.2 d.2 := List.zipWith_append (by rw [l1, hd.1])
  have := both_some U (cap := cap0) (cap2 := cap) (Q := Q) r4 r3 hc hcn (by omega) (by omega) fun b cap' η' h1 h2 h3 E => by rw [yl]; rw [hz] at h3; exact k b cap' η' E h2 (fin b cap' η' E h1 h2 h3)
  rw [yl, dl] at this
  exact this
end Go.Proofs.Ytjljolnhmmbkoaa
