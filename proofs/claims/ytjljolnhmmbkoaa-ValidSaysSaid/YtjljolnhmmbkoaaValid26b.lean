/- What is proved: the document's own third rule is the program's, instruction by instruction. Conditions: none. -/
import Derived.Test.YtjljolnhmmbkoaaValid25
set_option linter.unusedVariables false
set_option linter.unusedSimpArgs false
set_option linter.unusedSectionVars false
namespace Go.Proofs.Ytjljolnhmmbkoaa
open Go.Eng Go.Plain
set_option autoImplicit false
set_option maxRecDepth 100000
variable {nat : ∀ [Deep], Nats}
set_option maxHeartbeats 4000000 in
theorem fits_8 (U : Usual nat) {η : HN} {z : PV} {p : PD} {pc a b c : Nat} {Q : AV → HN → Prop} (hp : IsP η z p) (hf : Fine p) (ht : thereF p pc ⟨8, a, b, c⟩ = true) (h : ∀ η', ExtB η.nx η η' → Q (.bool (kindsF p ⟨8, a, b, c⟩)) η') : ∃ v η', CallN Try.prog nat 47 [.agg z.cells, .agg (Ins.cells ⟨8, a, b, c⟩)] η v η' ∧ Q v η' := by
  refine call_of (PT := pl47) Try.func47 rfl (U 47 (by decide)) ok47 rfl ?_
  have h1 := hf.ins.1
  have h2 := hf.outs.1
  have h3 := hf.slots.1
  have h4 := hf.mems.1
  have h5 := hf.consts.1
  have hcs : Ins.cells ⟨8, a, b, c⟩ = [.int .i64 8, .int .i64 a, .int .i64 b, .int .i64 c] := rfl
  have E : ExtB η.nx η ((η.new (.live false [z.z1, z.z2, z.z3, z.z4, z.z5, z.z6])).new (.live false [.int .i64 8, .int .i64 a, .int .i64 b, .int .i64 c])) := extN (extN (.refl _ _))
  have hb : ((η.new (.live false [z.z1, z.z2, z.z3, z.z4, z.z5, z.z6])).new (.live false [.int .i64 8, .int .i64 a, .int .i64 b, .int .i64 c])).f η.nx = .live false z.cells := by show (if η.nx = η.nx + 1 then _ else if η.nx = η.nx then _ else _) = _; rw [if_neg (by omega), if_pos rfl]
  have hb2 : ((η.new (.live false [z.z1, z.z2, z.z3, z.z4, z.z5, z.z6])).new (.live false [.int .i64 8, .int .i64 a, .int .i64 b, .int .i64 c])).f (η.nx + 1) = .live false [.int .i64 8, .int .i64 a, .int .i64 b, .int .i64 c] := by show (if η.nx + 1 = η.nx + 1 then _ else _) = _; rw [if_pos rfl]
  have hq := hp.ext E
  have ht : (true && (has p.slots a && (has p.slots b && has p.slots c))) = true := ht
  have key : ∀ {v : Bool}, (isF p 2 a && (isF p 2 b && isF p 2 c)) = v → Q (.bool v) ((η.new (.live false [z.z1, z.z2, z.z3, z.z4, z.z5, z.z6])).new (.live false [.int .i64 8, .int .i64 a, .int .i64 b, .int .i64 c])) := fun e => by rw [← e]; exact h _ E
  unfold isF at key
  clear h
  simp -implicitDefEqProofs (disch := omega) only [go_sem, hcs]
  generalize ((η.new (.live false [z.z1, z.z2, z.z3, z.z4, z.z5, z.z6])).new (.live false [.int .i64 8, .int .i64 a, .int .i64 b, .int .i64 c])) = η1 at *
  have ht := (and_lt ht).2
  obtain ⟨t1, ht⟩ := and_lt ht
  obtain ⟨t2, t3⟩ := and_lt ht
  obtain ⟨ba, offa, capa, roa, rowa, za, hba, hna, hra⟩ := hq.slots.at (has_lt t1)
  have ua := has_lt t1
  obtain ⟨bb, offb, capb, rob, rowb, zb, hbb, hnb, hrb⟩ := hq.slots.at (has_lt t2)
  have ub := has_lt t2
  rw [za] at zb
  cases zb
  rw [hba] at hbb
  cases hbb
  obtain ⟨bc, offc, capc, roc, rowc, zc, hbc, hnc, hrc⟩ := hq.slots.at (has_lt t3)
  have uc := has_lt t3
  rw [za] at zc
  cases zc
  rw [hba] at hbc
  cases hbc
  rw [getD_get _ _ ua, getD_get _ _ ub, getD_get _ _ uc] at key
  by_cases va : p.slots[a] ≠ 2
  · simp -implicitDefEqProofs (disch := omega) only [go_sem, hb, hb2, za, hba, hra, hrb, hrc, Bool.not_true, Bool.not_false]
    exact key (by simp [va])
  have va : p.slots[a] = 2 := Decidable.byContradiction va
  by_cases vb : p.slots[b] ≠ 2
  · simp -implicitDefEqProofs (disch := omega) only [go_sem, hb, hb2, za, hba, hra, hrb, hrc, va, Bool.not_true, Bool.not_false]
    exact key (by simp [va, vb])
  have vb : p.slots[b] = 2 := Decidable.byContradiction vb
  by_cases vc : p.slots[c] ≠ 2
  · simp -implicitDefEqProofs (disch := omega) only [go_sem, hb, hb2, za, hba, hra, hrb, hrc, va, vb, Bool.not_true, Bool.not_false]
    exact key (by simp [va, vb, vc])
  have vc : p.slots[c] = 2 := Decidable.byContradiction vc
  simp -implicitDefEqProofs (disch := omega) only [go_sem, hb, hb2, za, hba, hra, hrb, hrc, va, vb, vc, Bool.not_true, Bool.not_false]
  exact key (by simp [va, vb, vc])
set_option maxHeartbeats 4000000 in
theorem fits_9 (U : Usual nat) {η : HN} {z : PV} {p : PD} {pc a b c : Nat} {Q : AV → HN → Prop} (hp : IsP η z p) (hf : Fine p) (ht : thereF p pc ⟨9, a, b, c⟩ = true) (h : ∀ η', ExtB η.nx η η' → Q (.bool (kindsF p ⟨9, a, b, c⟩)) η') : ∃ v η', CallN Try.prog nat 47 [.agg z.cells, .agg (Ins.cells ⟨9, a, b, c⟩)] η v η' ∧ Q v η' := by
  refine call_of (PT := pl47) Try.func47 rfl (U 47 (by decide)) ok47 rfl ?_
  have h1 := hf.ins.1
  have h2 := hf.outs.1
  have h3 := hf.slots.1
  have h4 := hf.mems.1
  have h5 := hf.consts.1
  have hcs : Ins.cells ⟨9, a, b, c⟩ = [.int .i64 9, .int .i64 a, .int .i64 b, .int .i64 c] := rfl
  have E : ExtB η.nx η ((η.new (.live false [z.z1, z.z2, z.z3, z.z4, z.z5, z.z6])).new (.live false [.int .i64 9, .int .i64 a, .int .i64 b, .int .i64 c])) := extN (extN (.refl _ _))
  have hb : ((η.new (.live false [z.z1, z.z2, z.z3, z.z4, z.z5, z.z6])).new (.live false [.int .i64 9, .int .i64 a, .int .i64 b, .int .i64 c])).f η.nx = .live false z.cells := by show (if η.nx = η.nx + 1 then _ else if η.nx = η.nx then _ else _) = _; rw [if_neg (by omega), if_pos rfl]
  have hb2 : ((η.new (.live false [z.z1, z.z2, z.z3, z.z4, z.z5, z.z6])).new (.live false [.int .i64 9, .int .i64 a, .int .i64 b, .int .i64 c])).f (η.nx + 1) = .live false [.int .i64 9, .int .i64 a, .int .i64 b, .int .i64 c] := by show (if η.nx + 1 = η.nx + 1 then _ else _) = _; rw [if_pos rfl]
  have hq := hp.ext E
  have ht : (true && (has p.slots a && (has p.slots b && has p.slots c))) = true := ht
  have key : ∀ {v : Bool}, (isF p 2 a && (isF p 2 b && isF p 2 c)) = v → Q (.bool v) ((η.new (.live false [z.z1, z.z2, z.z3, z.z4, z.z5, z.z6])).new (.live false [.int .i64 9, .int .i64 a, .int .i64 b, .int .i64 c])) := fun e => by rw [← e]; exact h _ E
  unfold isF at key
  clear h
  simp -implicitDefEqProofs (disch := omega) only [go_sem, hcs]
  generalize ((η.new (.live false [z.z1, z.z2, z.z3, z.z4, z.z5, z.z6])).new (.live false [.int .i64 9, .int .i64 a, .int .i64 b, .int .i64 c])) = η1 at *
  have ht := (and_lt ht).2
  obtain ⟨t1, ht⟩ := and_lt ht
  obtain ⟨t2, t3⟩ := and_lt ht
  obtain ⟨ba, offa, capa, roa, rowa, za, hba, hna, hra⟩ := hq.slots.at (has_lt t1)
  have ua := has_lt t1
  obtain ⟨bb, offb, capb, rob, rowb, zb, hbb, hnb, hrb⟩ := hq.slots.at (has_lt t2)
  have ub := has_lt t2
  rw [za] at zb
  cases zb
  rw [hba] at hbb
  cases hbb
  obtain ⟨bc, offc, capc, roc, rowc, zc, hbc, hnc, hrc⟩ := hq.slots.at (has_lt t3)
  have uc := has_lt t3
  rw [za] at zc
  cases zc
  rw [hba] at hbc
  cases hbc
  rw [getD_get _ _ ua, getD_get _ _ ub, getD_get _ _ uc] at key
  by_cases va : p.slots[a] ≠ 2
  · simp -implicitDefEqProofs (disch := omega) only [go_sem, hb, hb2, za, hba, hra, hrb, hrc, Bool.not_true, Bool.not_false]
    exact key (by simp [va])
  have va : p.slots[a] = 2 := Decidable.byContradiction va
  by_cases vb : p.slots[b] ≠ 2
  · simp -implicitDefEqProofs (disch := omega) only [go_sem, hb, hb2, za, hba, hra, hrb, hrc, va, Bool.not_true, Bool.not_false]
    exact key (by simp [va, vb])
  have vb : p.slots[b] = 2 := Decidable.byContradiction vb
  by_cases vc : p.slots[c] ≠ 2
  · simp -implicitDefEqProofs (disch := omega) only [go_sem, hb, hb2, za, hba, hra, hrb, hrc, va, vb, Bool.not_true, Bool.not_false]
    exact key (by simp [va, vb, vc])
  have vc : p.slots[c] = 2 := Decidable.byContradiction vc
  simp -implicitDefEqProofs (disch := omega) only [go_sem, hb, hb2, za, hba, hra, hrb, hrc, va, vb, vc, Bool.not_true, Bool.not_false]
  exact key (by simp [va, vb, vc])
set_option maxHeartbeats 4000000 in
theorem fits_10 (U : Usual nat) {η : HN} {z : PV} {p : PD} {pc a b c : Nat} {Q : AV → HN → Prop} (hp : IsP η z p) (hf : Fine p) (ht : thereF p pc ⟨10, a, b, c⟩ = true) (h : ∀ η', ExtB η.nx η η' → Q (.bool (kindsF p ⟨10, a, b, c⟩)) η') : ∃ v η', CallN Try.prog nat 47 [.agg z.cells, .agg (Ins.cells ⟨10, a, b, c⟩)] η v η' ∧ Q v η' := by
  refine call_of (PT := pl47) Try.func47 rfl (U 47 (by decide)) ok47 rfl ?_
  have h1 := hf.ins.1
  have h2 := hf.outs.1
  have h3 := hf.slots.1
  have h4 := hf.mems.1
  have h5 := hf.consts.1
  have hcs : Ins.cells ⟨10, a, b, c⟩ = [.int .i64 10, .int .i64 a, .int .i64 b, .int .i64 c] := rfl
  have E : ExtB η.nx η ((η.new (.live false [z.z1, z.z2, z.z3, z.z4, z.z5, z.z6])).new (.live false [.int .i64 10, .int .i64 a, .int .i64 b, .int .i64 c])) := extN (extN (.refl _ _))
  have hb : ((η.new (.live false [z.z1, z.z2, z.z3, z.z4, z.z5, z.z6])).new (.live false [.int .i64 10, .int .i64 a, .int .i64 b, .int .i64 c])).f η.nx = .live false z.cells := by show (if η.nx = η.nx + 1 then _ else if η.nx = η.nx then _ else _) = _; rw [if_neg (by omega), if_pos rfl]
  have hb2 : ((η.new (.live false [z.z1, z.z2, z.z3, z.z4, z.z5, z.z6])).new (.live false [.int .i64 10, .int .i64 a, .int .i64 b, .int .i64 c])).f (η.nx + 1) = .live false [.int .i64 10, .int .i64 a, .int .i64 b, .int .i64 c] := by show (if η.nx + 1 = η.nx + 1 then _ else _) = _; rw [if_pos rfl]
  have hq := hp.ext E
  have ht : (true && (has p.slots a && (has p.slots b && has p.slots c))) = true := ht
  have key : ∀ {v : Bool}, (isF p 2 a && (isF p 2 b && isF p 2 c)) = v → Q (.bool v) ((η.new (.live false [z.z1, z.z2, z.z3, z.z4, z.z5, z.z6])).new (.live false [.int .i64 10, .int .i64 a, .int .i64 b, .int .i64 c])) := fun e => by rw [← e]; exact h _ E
  unfold isF at key
  clear h
  simp -implicitDefEqProofs (disch := omega) only [go_sem, hcs]
  generalize ((η.new (.live false [z.z1, z.z2, z.z3, z.z4, z.z5, z.z6])).new (.live false [.int .i64 10, .int .i64 a, .int .i64 b, .int .i64 c])) = η1 at *
  have ht := (and_lt ht).2
  obtain ⟨t1, ht⟩ := and_lt ht
  obtain ⟨t2, t3⟩ := and_lt ht
  obtain ⟨ba, offa, capa, roa, rowa, za, hba, hna, hra⟩ := hq.slots.at (has_lt t1)
  have ua := has_lt t1
  obtain ⟨bb, offb, capb, rob, rowb, zb, hbb, hnb, hrb⟩ := hq.slots.at (has_lt t2)
  have ub := has_lt t2
  rw [za] at zb
  cases zb
  rw [hba] at hbb
  cases hbb
  obtain ⟨bc, offc, capc, roc, rowc, zc, hbc, hnc, hrc⟩ := hq.slots.at (has_lt t3)
  have uc := has_lt t3
  rw [za] at zc
  cases zc
  rw [hba] at hbc
  cases hbc
  rw [getD_get _ _ ua, getD_get _ _ ub, getD_get _ _ uc] at key
  by_cases va : p.slots[a] ≠ 2
  · simp -implicitDefEqProofs (disch := omega) only [go_sem, hb, hb2, za, hba, hra, hrb, hrc, Bool.not_true, Bool.not_false]
    exact key (by simp [va])
  have va : p.slots[a] = 2 := Decidable.byContradiction va
  by_cases vb : p.slots[b] ≠ 2
  · simp -implicitDefEqProofs (disch := omega) only [go_sem, hb, hb2, za, hba, hra, hrb, hrc, va, Bool.not_true, Bool.not_false]
    exact key (by simp [va, vb])
  have vb : p.slots[b] = 2 := Decidable.byContradiction vb
  by_cases vc : p.slots[c] ≠ 2
  · simp -implicitDefEqProofs (disch := omega) only [go_sem, hb, hb2, za, hba, hra, hrb, hrc, va, vb, Bool.not_true, Bool.not_false]
    exact key (by simp [va, vb, vc])
  have vc : p.slots[c] = 2 := Decidable.byContradiction vc
  simp -implicitDefEqProofs (disch := omega) only [go_sem, hb, hb2, za, hba, hra, hrb, hrc, va, vb, vc, Bool.not_true, Bool.not_false]
  exact key (by simp [va, vb, vc])
set_option maxHeartbeats 4000000 in
theorem fits_11 (U : Usual nat) {η : HN} {z : PV} {p : PD} {pc a b c : Nat} {Q : AV → HN → Prop} (hp : IsP η z p) (hf : Fine p) (ht : thereF p pc ⟨11, a, b, c⟩ = true) (h : ∀ η', ExtB η.nx η η' → Q (.bool (kindsF p ⟨11, a, b, c⟩)) η') : ∃ v η', CallN Try.prog nat 47 [.agg z.cells, .agg (Ins.cells ⟨11, a, b, c⟩)] η v η' ∧ Q v η' := by
  refine call_of (PT := pl47) Try.func47 rfl (U 47 (by decide)) ok47 rfl ?_
  have h1 := hf.ins.1
  have h2 := hf.outs.1
  have h3 := hf.slots.1
  have h4 := hf.mems.1
  have h5 := hf.consts.1
  have hcs : Ins.cells ⟨11, a, b, c⟩ = [.int .i64 11, .int .i64 a, .int .i64 b, .int .i64 c] := rfl
  have E : ExtB η.nx η ((η.new (.live false [z.z1, z.z2, z.z3, z.z4, z.z5, z.z6])).new (.live false [.int .i64 11, .int .i64 a, .int .i64 b, .int .i64 c])) := extN (extN (.refl _ _))
  have hb : ((η.new (.live false [z.z1, z.z2, z.z3, z.z4, z.z5, z.z6])).new (.live false [.int .i64 11, .int .i64 a, .int .i64 b, .int .i64 c])).f η.nx = .live false z.cells := by show (if η.nx = η.nx + 1 then _ else if η.nx = η.nx then _ else _) = _; rw [if_neg (by omega), if_pos rfl]
  have hb2 : ((η.new (.live false [z.z1, z.z2, z.z3, z.z4, z.z5, z.z6])).new (.live false [.int .i64 11, .int .i64 a, .int .i64 b, .int .i64 c])).f (η.nx + 1) = .live false [.int .i64 11, .int .i64 a, .int .i64 b, .int .i64 c] := by show (if η.nx + 1 = η.nx + 1 then _ else _) = _; rw [if_pos rfl]
  have hq := hp.ext E
  have ht : (true && (has p.slots a && (has p.slots b && has p.slots c))) = true := ht
  have key : ∀ {v : Bool}, (isF p 2 a && (isF p 2 b && isF p 2 c)) = v → Q (.bool v) ((η.new (.live false [z.z1, z.z2, z.z3, z.z4, z.z5, z.z6])).new (.live false [.int .i64 11, .int .i64 a, .int .i64 b, .int .i64 c])) := fun e => by rw [← e]; exact h _ E
  unfold isF at key
  clear h
  simp -implicitDefEqProofs (disch := omega) only [go_sem, hcs]
  generalize ((η.new (.live false [z.z1, z.z2, z.z3, z.z4, z.z5, z.z6])).new (.live false [.int .i64 11, .int .i64 a, .int .i64 b, .int .i64 c])) = η1 at *
  have ht := (and_lt ht).2
  obtain ⟨t1, ht⟩ := and_lt ht
  obtain ⟨t2, t3⟩ := and_lt ht
  obtain ⟨ba, offa, capa, roa, rowa, za, hba, hna, hra⟩ := hq.slots.at (has_lt t1)
  have ua := has_lt t1
  obtain ⟨bb, offb, capb, rob, rowb, zb, hbb, hnb, hrb⟩ := hq.slots.at (has_lt t2)
  have ub := has_lt t2
  rw [za] at zb
  cases zb
  rw [hba] at hbb
  cases hbb
  obtain ⟨bc, offc, capc, roc, rowc, zc, hbc, hnc, hrc⟩ := hq.slots.at (has_lt t3)
  have uc := has_lt t3
  rw [za] at zc
  cases zc
  rw [hba] at hbc
  cases hbc
  rw [getD_get _ _ ua, getD_get _ _ ub, getD_get _ _ uc] at key
  by_cases va : p.slots[a] ≠ 2
  · simp -implicitDefEqProofs (disch := omega) only [go_sem, hb, hb2, za, hba, hra, hrb, hrc, Bool.not_true, Bool.not_false]
    exact key (by simp [va])
  have va : p.slots[a] = 2 := Decidable.byContradiction va
  by_cases vb : p.slots[b] ≠ 2
  · simp -implicitDefEqProofs (disch := omega) only [go_sem, hb, hb2, za, hba, hra, hrb, hrc, va, Bool.not_true, Bool.not_false]
    exact key (by simp [va, vb])
  have vb : p.slots[b] = 2 := Decidable.byContradiction vb
  by_cases vc : p.slots[c] ≠ 2
  · simp -implicitDefEqProofs (disch := omega) only [go_sem, hb, hb2, za, hba, hra, hrb, hrc, va, vb, Bool.not_true, Bool.not_false]
    exact key (by simp [va, vb, vc])
  have vc : p.slots[c] = 2 := Decidable.byContradiction vc
  simp -implicitDefEqProofs (disch := omega) only [go_sem, hb, hb2, za, hba, hra, hrb, hrc, va, vb, vc, Bool.not_true, Bool.not_false]
  exact key (by simp [va, vb, vc])
set_option maxHeartbeats 4000000 in
theorem fits_12 (U : Usual nat) {η : HN} {z : PV} {p : PD} {pc a b c : Nat} {Q : AV → HN → Prop} (hp : IsP η z p) (hf : Fine p) (ht : thereF p pc ⟨12, a, b, c⟩ = true) (h : ∀ η', ExtB η.nx η η' → Q (.bool (kindsF p ⟨12, a, b, c⟩)) η') : ∃ v η', CallN Try.prog nat 47 [.agg z.cells, .agg (Ins.cells ⟨12, a, b, c⟩)] η v η' ∧ Q v η' := by
  refine call_of (PT := pl47) Try.func47 rfl (U 47 (by decide)) ok47 rfl ?_
  have h1 := hf.ins.1
  have h2 := hf.outs.1
  have h3 := hf.slots.1
  have h4 := hf.mems.1
  have h5 := hf.consts.1
  have hcs : Ins.cells ⟨12, a, b, c⟩ = [.int .i64 12, .int .i64 a, .int .i64 b, .int .i64 c] := rfl
  have E : ExtB η.nx η ((η.new (.live false [z.z1, z.z2, z.z3, z.z4, z.z5, z.z6])).new (.live false [.int .i64 12, .int .i64 a, .int .i64 b, .int .i64 c])) := extN (extN (.refl _ _))
  have hb : ((η.new (.live false [z.z1, z.z2, z.z3, z.z4, z.z5, z.z6])).new (.live false [.int .i64 12, .int .i64 a, .int .i64 b, .int .i64 c])).f η.nx = .live false z.cells := by show (if η.nx = η.nx + 1 then _ else if η.nx = η.nx then _ else _) = _; rw [if_neg (by omega), if_pos rfl]
  have hb2 : ((η.new (.live false [z.z1, z.z2, z.z3, z.z4, z.z5, z.z6])).new (.live false [.int .i64 12, .int .i64 a, .int .i64 b, .int .i64 c])).f (η.nx + 1) = .live false [.int .i64 12, .int .i64 a, .int .i64 b, .int .i64 c] := by show (if η.nx + 1 = η.nx + 1 then _ else _) = _; rw [if_pos rfl]
  have hq := hp.ext E
  have ht : (true && (has p.slots a && (has p.slots b && has p.slots c))) = true := ht
  have key : ∀ {v : Bool}, (isF p 2 a && (isF p 2 b && isF p 2 c)) = v → Q (.bool v) ((η.new (.live false [z.z1, z.z2, z.z3, z.z4, z.z5, z.z6])).new (.live false [.int .i64 12, .int .i64 a, .int .i64 b, .int .i64 c])) := fun e => by rw [← e]; exact h _ E
  unfold isF at key
  clear h
  simp -implicitDefEqProofs (disch := omega) only [go_sem, hcs]
  generalize ((η.new (.live false [z.z1, z.z2, z.z3, z.z4, z.z5, z.z6])).new (.live false [.int .i64 12, .int .i64 a, .int .i64 b, .int .i64 c])) = η1 at *
  have ht := (and_lt ht).2
  obtain ⟨t1, ht⟩ := and_lt ht
  obtain ⟨t2, t3⟩ := and_lt ht
  obtain ⟨ba, offa, capa, roa, rowa, za, hba, hna, hra⟩ := hq.slots.at (has_lt t1)
  have ua := has_lt t1
  obtain ⟨bb, offb, capb, rob, rowb, zb, hbb, hnb, hrb⟩ := hq.slots.at (has_lt t2)
  have ub := has_lt t2
  rw [za] at zb
  cases zb
  rw [hba] at hbb
  cases hbb
  obtain ⟨bc, offc, capc, roc, rowc, zc, hbc, hnc, hrc⟩ := hq.slots.at (has_lt t3)
  have uc := has_lt t3
  rw [za] at zc
  cases zc
  rw [hba] at hbc
  cases hbc
  rw [getD_get _ _ ua, getD_get _ _ ub, getD_get _ _ uc] at key
  by_cases va : p.slots[a] ≠ 2
  · simp -implicitDefEqProofs (disch := omega) only [go_sem, hb, hb2, za, hba, hra, hrb, hrc, Bool.not_true, Bool.not_false]
    exact key (by simp [va])
  have va : p.slots[a] = 2 := Decidable.byContradiction va
  by_cases vb : p.slots[b] ≠ 2
  · simp -implicitDefEqProofs (disch := omega) only [go_sem, hb, hb2, za, hba, hra, hrb, hrc, va, Bool.not_true, Bool.not_false]
    exact key (by simp [va, vb])
  have vb : p.slots[b] = 2 := Decidable.byContradiction vb
  by_cases vc : p.slots[c] ≠ 2
  · simp -implicitDefEqProofs (disch := omega) only [go_sem, hb, hb2, za, hba, hra, hrb, hrc, va, vb, Bool.not_true, Bool.not_false]
    exact key (by simp [va, vb, vc])
  have vc : p.slots[c] = 2 := Decidable.byContradiction vc
  simp -implicitDefEqProofs (disch := omega) only [go_sem, hb, hb2, za, hba, hra, hrb, hrc, va, vb, vc, Bool.not_true, Bool.not_false]
  exact key (by simp [va, vb, vc])
set_option maxHeartbeats 4000000 in
theorem fits_13 (U : Usual nat) {η : HN} {z : PV} {p : PD} {pc a b c : Nat} {Q : AV → HN → Prop} (hp : IsP η z p) (hf : Fine p) (ht : thereF p pc ⟨13, a, b, c⟩ = true) (h : ∀ η', ExtB η.nx η η' → Q (.bool (kindsF p ⟨13, a, b, c⟩)) η') : ∃ v η', CallN Try.prog nat 47 [.agg z.cells, .agg (Ins.cells ⟨13, a, b, c⟩)] η v η' ∧ Q v η' := by
  refine call_of (PT := pl47) Try.func47 rfl (U 47 (by decide)) ok47 rfl ?_
  have h1 := hf.ins.1
  have h2 := hf.outs.1
  have h3 := hf.slots.1
  have h4 := hf.mems.1
  have h5 := hf.consts.1
  have hcs : Ins.cells ⟨13, a, b, c⟩ = [.int .i64 13, .int .i64 a, .int .i64 b, .int .i64 c] := rfl
  have E : ExtB η.nx η ((η.new (.live false [z.z1, z.z2, z.z3, z.z4, z.z5, z.z6])).new (.live false [.int .i64 13, .int .i64 a, .int .i64 b, .int .i64 c])) := extN (extN (.refl _ _))
  have hb : ((η.new (.live false [z.z1, z.z2, z.z3, z.z4, z.z5, z.z6])).new (.live false [.int .i64 13, .int .i64 a, .int .i64 b, .int .i64 c])).f η.nx = .live false z.cells := by show (if η.nx = η.nx + 1 then _ else if η.nx = η.nx then _ else _) = _; rw [if_neg (by omega), if_pos rfl]
  have hb2 : ((η.new (.live false [z.z1, z.z2, z.z3, z.z4, z.z5, z.z6])).new (.live false [.int .i64 13, .int .i64 a, .int .i64 b, .int .i64 c])).f (η.nx + 1) = .live false [.int .i64 13, .int .i64 a, .int .i64 b, .int .i64 c] := by show (if η.nx + 1 = η.nx + 1 then _ else _) = _; rw [if_pos rfl]
  have hq := hp.ext E
  have ht : (true && (has p.slots a && (has p.slots b && has p.slots c))) = true := ht
  have key : ∀ {v : Bool}, (isF p 1 a && decide (p.slots.getD b 0 = p.slots.getD c 0)) = v → Q (.bool v) ((η.new (.live false [z.z1, z.z2, z.z3, z.z4, z.z5, z.z6])).new (.live false [.int .i64 13, .int .i64 a, .int .i64 b, .int .i64 c])) := fun e => by rw [← e]; exact h _ E
  unfold isF at key
  clear h
  simp -implicitDefEqProofs (disch := omega) only [go_sem, hcs]
  generalize ((η.new (.live false [z.z1, z.z2, z.z3, z.z4, z.z5, z.z6])).new (.live false [.int .i64 13, .int .i64 a, .int .i64 b, .int .i64 c])) = η1 at *
  have ht := (and_lt ht).2
  obtain ⟨t1, ht⟩ := and_lt ht
  obtain ⟨t2, t3⟩ := and_lt ht
  obtain ⟨ba, offa, capa, roa, rowa, za, hba, hna, hra⟩ := hq.slots.at (has_lt t1)
  have ua := has_lt t1
  obtain ⟨bb, offb, capb, rob, rowb, zb, hbb, hnb, hrb⟩ := hq.slots.at (has_lt t2)
  have ub := has_lt t2
  rw [za] at zb
  cases zb
  rw [hba] at hbb
  cases hbb
  obtain ⟨bc, offc, capc, roc, rowc, zc, hbc, hnc, hrc⟩ := hq.slots.at (has_lt t3)
  have uc := has_lt t3
  rw [za] at zc
  cases zc
  rw [hba] at hbc
  cases hbc
  rw [getD_get _ _ ua, getD_get _ _ ub, getD_get _ _ uc] at key
  by_cases va : p.slots[a] ≠ 1
  · simp -implicitDefEqProofs (disch := omega) only [go_sem, hb, hb2, za, hba, hra, hrb, hrc, Bool.not_true, Bool.not_false]
    exact key (by simp [va])
  have va : p.slots[a] = 1 := Decidable.byContradiction va
  simp -implicitDefEqProofs (disch := omega) only [go_sem, hb, hb2, za, hba, hra, hrb, hrc, va, Bool.not_true, Bool.not_false]
  exact key (by simp [va])
end Go.Proofs.Ytjljolnhmmbkoaa
