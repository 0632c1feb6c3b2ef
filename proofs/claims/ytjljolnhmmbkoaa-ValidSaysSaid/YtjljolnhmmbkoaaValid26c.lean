/- What is proved: the document's own third rule is the program's, instruction by instruction. Conditions: none. -/
import Derived.Test.YtjljolnhmmbkoaaValid26a
import Derived.Test.YtjljolnhmmbkoaaValid26b
set_option linter.unusedVariables false
set_option linter.unusedSimpArgs false
set_option linter.unusedSectionVars false
namespace Go.Proofs.Ytjljolnhmmbkoaa
open Go.Eng Go.Plain
set_option autoImplicit false
set_option maxRecDepth 100000
variable {nat : ∀ [Deep], Nats}
set_option maxHeartbeats 4000000 in
theorem fits_14 (U : Usual nat) {η : HN} {z : PV} {p : PD} {pc a b c : Nat} {Q : AV → HN → Prop} (hp : IsP η z p) (hf : Fine p) (ht : thereF p pc ⟨14, a, b, c⟩ = true) (h : ∀ η', ExtB η.nx η η' → Q (.bool (kindsF p ⟨14, a, b, c⟩)) η') : ∃ v η', CallN Try.prog nat 47 [.agg z.cells, .agg (Ins.cells ⟨14, a, b, c⟩)] η v η' ∧ Q v η' := by
  refine call_of (PT := pl47) Try.func47 rfl (U 47 (by decide)) ok47 rfl ?_
  have h1 := hf.ins.1
  have h2 := hf.outs.1
  have h3 := hf.slots.1
  have h4 := hf.mems.1
  have h5 := hf.consts.1
  have hcs : Ins.cells ⟨14, a, b, c⟩ = [.int .i64 14, .int .i64 a, .int .i64 b, .int .i64 c] := rfl
  have E : ExtB η.nx η ((η.new (.live false [z.z1, z.z2, z.z3, z.z4, z.z5, z.z6])).new (.live false [.int .i64 14, .int .i64 a, .int .i64 b, .int .i64 c])) := extN (extN (.refl _ _))
  have hb : ((η.new (.live false [z.z1, z.z2, z.z3, z.z4, z.z5, z.z6])).new (.live false [.int .i64 14, .int .i64 a, .int .i64 b, .int .i64 c])).f η.nx = .live false z.cells := by show (if η.nx = η.nx + 1 then _ else if η.nx = η.nx then _ else _) = _; rw [if_neg (by omega), if_pos rfl]
  have hb2 : ((η.new (.live false [z.z1, z.z2, z.z3, z.z4, z.z5, z.z6])).new (.live false [.int .i64 14, .int .i64 a, .int .i64 b, .int .i64 c])).f (η.nx + 1) = .live false [.int .i64 14, .int .i64 a, .int .i64 b, .int .i64 c] := by show (if η.nx + 1 = η.nx + 1 then _ else _) = _; rw [if_pos rfl]
  have hq := hp.ext E
  have ht : (true && (has p.slots a && (has p.slots b && has p.slots c))) = true := ht
  have key : ∀ {v : Bool}, (isF p 1 a && (isF p 2 b && isF p 2 c)) = v → Q (.bool v) ((η.new (.live false [z.z1, z.z2, z.z3, z.z4, z.z5, z.z6])).new (.live false [.int .i64 14, .int .i64 a, .int .i64 b, .int .i64 c])) := fun e => by rw [← e]; exact h _ E
  unfold isF at key
  clear h
  simp -implicitDefEqProofs (disch := omega) only [go_sem, hcs]
  generalize ((η.new (.live false [z.z1, z.z2, z.z3, z.z4, z.z5, z.z6])).new (.live false [.int .i64 14, .int .i64 a, .int .i64 b, .int .i64 c])) = η1 at *
  have ht := (and_lt ht).2
  obtain ⟨t1, ht⟩ := and_lt ht
  obtain ⟨t2, t3⟩ := and_lt ht
  obtain ⟨ba, offa, capa, roa, rowa, za, hba, hna, hra⟩ := hq.slots.at (has_lt t1)
  have ua := has_lt t1
  obtain ⟨bb, offb, capb, rob, rowb, zb, hbb, hnb, hrb⟩ := hq.slots.at (has_lt t2)
  have ub := has_lt t2
  rw [za] at zb
  cases zb
  rw [hba] at hbb
  cases hbb
  obtain ⟨bc, offc, capc, roc, rowc, zc, hbc, hnc, hrc⟩ := hq.slots.at (has_lt t3)
  have uc := has_lt t3
  rw [za] at zc
  cases zc
  rw [hba] at hbc
  cases hbc
  rw [getD_get _ _ ua, getD_get _ _ ub, getD_get _ _ uc] at key
  by_cases va : p.slots[a] ≠ 1
  · simp -implicitDefEqProofs (disch := omega) only [go_sem, hb, hb2, za, hba, hra, hrb, hrc, Bool.not_true, Bool.not_false]
    exact key (by simp [va])
  have va : p.slots[a] = 1 := Decidable.byContradiction va
  by_cases vb : p.slots[b] ≠ 2
  · simp -implicitDefEqProofs (disch := omega) only [go_sem, hb, hb2, za, hba, hra, hrb, hrc, va, Bool.not_true, Bool.not_false]
    exact key (by simp [va, vb])
  have vb : p.slots[b] = 2 := Decidable.byContradiction vb
  by_cases vc : p.slots[c] ≠ 2
  · simp -implicitDefEqProofs (disch := omega) only [go_sem, hb, hb2, za, hba, hra, hrb, hrc, va, vb, Bool.not_true, Bool.not_false]
    exact key (by simp [va, vb, vc])
  have vc : p.slots[c] = 2 := Decidable.byContradiction vc
  simp -implicitDefEqProofs (disch := omega) only [go_sem, hb, hb2, za, hba, hra, hrb, hrc, va, vb, vc, Bool.not_true, Bool.not_false]
  exact key (by simp [va, vb, vc])
set_option maxHeartbeats 4000000 in
theorem fits_15 (U : Usual nat) {η : HN} {z : PV} {p : PD} {pc a b c : Nat} {Q : AV → HN → Prop} (hp : IsP η z p) (hf : Fine p) (ht : thereF p pc ⟨15, a, b, c⟩ = true) (h : ∀ η', ExtB η.nx η η' → Q (.bool (kindsF p ⟨15, a, b, c⟩)) η') : ∃ v η', CallN Try.prog nat 47 [.agg z.cells, .agg (Ins.cells ⟨15, a, b, c⟩)] η v η' ∧ Q v η' := by
  refine call_of (PT := pl47) Try.func47 rfl (U 47 (by decide)) ok47 rfl ?_
  have h1 := hf.ins.1
  have h2 := hf.outs.1
  have h3 := hf.slots.1
  have h4 := hf.mems.1
  have h5 := hf.consts.1
  have hcs : Ins.cells ⟨15, a, b, c⟩ = [.int .i64 15, .int .i64 a, .int .i64 b, .int .i64 c] := rfl
  have E : ExtB η.nx η ((η.new (.live false [z.z1, z.z2, z.z3, z.z4, z.z5, z.z6])).new (.live false [.int .i64 15, .int .i64 a, .int .i64 b, .int .i64 c])) := extN (extN (.refl _ _))
  have hb : ((η.new (.live false [z.z1, z.z2, z.z3, z.z4, z.z5, z.z6])).new (.live false [.int .i64 15, .int .i64 a, .int .i64 b, .int .i64 c])).f η.nx = .live false z.cells := by show (if η.nx = η.nx + 1 then _ else if η.nx = η.nx then _ else _) = _; rw [if_neg (by omega), if_pos rfl]
  have hb2 : ((η.new (.live false [z.z1, z.z2, z.z3, z.z4, z.z5, z.z6])).new (.live false [.int .i64 15, .int .i64 a, .int .i64 b, .int .i64 c])).f (η.nx + 1) = .live false [.int .i64 15, .int .i64 a, .int .i64 b, .int .i64 c] := by show (if η.nx + 1 = η.nx + 1 then _ else _) = _; rw [if_pos rfl]
  have hq := hp.ext E
  have ht : (true && (has p.slots a && (has p.slots b && has p.slots c))) = true := ht
  have key : ∀ {v : Bool}, (isF p 1 a && (isF p 2 b && isF p 2 c)) = v → Q (.bool v) ((η.new (.live false [z.z1, z.z2, z.z3, z.z4, z.z5, z.z6])).new (.live false [.int .i64 15, .int .i64 a, .int .i64 b, .int .i64 c])) := fun e => by rw [← e]; exact h _ E
  unfold isF at key
  clear h
  simp -implicitDefEqProofs (disch := omega) only [go_sem, hcs]
  generalize ((η.new (.live false [z.z1, z.z2, z.z3, z.z4, z.z5, z.z6])).new (.live false [.int .i64 15, .int .i64 a, .int .i64 b, .int .i64 c])) = η1 at *
  have ht := (and_lt ht).2
  obtain ⟨t1, ht⟩ := and_lt ht
  obtain ⟨t2, t3⟩ := and_lt ht
  obtain ⟨ba, offa, capa, roa, rowa, za, hba, hna, hra⟩ := hq.slots.at (has_lt t1)
  have ua := has_lt t1
  obtain ⟨bb, offb, capb, rob, rowb, zb, hbb, hnb, hrb⟩ := hq.slots.at (has_lt t2)
  have ub := has_lt t2
  rw [za] at zb
  cases zb
  rw [hba] at hbb
  cases hbb
  obtain ⟨bc, offc, capc, roc, rowc, zc, hbc, hnc, hrc⟩ := hq.slots.at (has_lt t3)
  have uc := has_lt t3
  rw [za] at zc
  cases zc
  rw [hba] at hbc
  cases hbc
  rw [getD_get _ _ ua, getD_get _ _ ub, getD_get _ _ uc] at key
  by_cases va : p.slots[a] ≠ 1
  · simp -implicitDefEqProofs (disch := omega) only [go_sem, hb, hb2, za, hba, hra, hrb, hrc, Bool.not_true, Bool.not_false]
    exact key (by simp [va])
  have va : p.slots[a] = 1 := Decidable.byContradiction va
  by_cases vb : p.slots[b] ≠ 2
  · simp -implicitDefEqProofs (disch := omega) only [go_sem, hb, hb2, za, hba, hra, hrb, hrc, va, Bool.not_true, Bool.not_false]
    exact key (by simp [va, vb])
  have vb : p.slots[b] = 2 := Decidable.byContradiction vb
  by_cases vc : p.slots[c] ≠ 2
  · simp -implicitDefEqProofs (disch := omega) only [go_sem, hb, hb2, za, hba, hra, hrb, hrc, va, vb, Bool.not_true, Bool.not_false]
    exact key (by simp [va, vb, vc])
  have vc : p.slots[c] = 2 := Decidable.byContradiction vc
  simp -implicitDefEqProofs (disch := omega) only [go_sem, hb, hb2, za, hba, hra, hrb, hrc, va, vb, vc, Bool.not_true, Bool.not_false]
  exact key (by simp [va, vb, vc])
set_option maxHeartbeats 4000000 in
theorem fits_16 (U : Usual nat) {η : HN} {z : PV} {p : PD} {pc a b c : Nat} {Q : AV → HN → Prop} (hp : IsP η z p) (hf : Fine p) (ht : thereF p pc ⟨16, a, b, c⟩ = true) (h : ∀ η', ExtB η.nx η η' → Q (.bool (kindsF p ⟨16, a, b, c⟩)) η') : ∃ v η', CallN Try.prog nat 47 [.agg z.cells, .agg (Ins.cells ⟨16, a, b, c⟩)] η v η' ∧ Q v η' := by
  refine call_of (PT := pl47) Try.func47 rfl (U 47 (by decide)) ok47 rfl ?_
  have h1 := hf.ins.1
  have h2 := hf.outs.1
  have h3 := hf.slots.1
  have h4 := hf.mems.1
  have h5 := hf.consts.1
  have hcs : Ins.cells ⟨16, a, b, c⟩ = [.int .i64 16, .int .i64 a, .int .i64 b, .int .i64 c] := rfl
  have E : ExtB η.nx η ((η.new (.live false [z.z1, z.z2, z.z3, z.z4, z.z5, z.z6])).new (.live false [.int .i64 16, .int .i64 a, .int .i64 b, .int .i64 c])) := extN (extN (.refl _ _))
  have hb : ((η.new (.live false [z.z1, z.z2, z.z3, z.z4, z.z5, z.z6])).new (.live false [.int .i64 16, .int .i64 a, .int .i64 b, .int .i64 c])).f η.nx = .live false z.cells := by show (if η.nx = η.nx + 1 then _ else if η.nx = η.nx then _ else _) = _; rw [if_neg (by omega), if_pos rfl]
  have hb2 : ((η.new (.live false [z.z1, z.z2, z.z3, z.z4, z.z5, z.z6])).new (.live false [.int .i64 16, .int .i64 a, .int .i64 b, .int .i64 c])).f (η.nx + 1) = .live false [.int .i64 16, .int .i64 a, .int .i64 b, .int .i64 c] := by show (if η.nx + 1 = η.nx + 1 then _ else _) = _; rw [if_pos rfl]
  have hq := hp.ext E
  have ht : (true && (has p.slots a && (has p.slots b && has p.slots c))) = true := ht
  have key : ∀ {v : Bool}, (isF p 1 a && (isF p 1 b && isF p 1 c)) = v → Q (.bool v) ((η.new (.live false [z.z1, z.z2, z.z3, z.z4, z.z5, z.z6])).new (.live false [.int .i64 16, .int .i64 a, .int .i64 b, .int .i64 c])) := fun e => by rw [← e]; exact h _ E
  unfold isF at key
  clear h
  simp -implicitDefEqProofs (disch := omega) only [go_sem, hcs]
  generalize ((η.new (.live false [z.z1, z.z2, z.z3, z.z4, z.z5, z.z6])).new (.live false [.int .i64 16, .int .i64 a, .int .i64 b, .int .i64 c])) = η1 at *
  have ht := (and_lt ht).2
  obtain ⟨t1, ht⟩ := and_lt ht
  obtain ⟨t2, t3⟩ := and_lt ht
  obtain ⟨ba, offa, capa, roa, rowa, za, hba, hna, hra⟩ := hq.slots.at (has_lt t1)
  have ua := has_lt t1
  obtain ⟨bb, offb, capb, rob, rowb, zb, hbb, hnb, hrb⟩ := hq.slots.at (has_lt t2)
  have ub := has_lt t2
  rw [za] at zb
  cases zb
  rw [hba] at hbb
  cases hbb
  obtain ⟨bc, offc, capc, roc, rowc, zc, hbc, hnc, hrc⟩ := hq.slots.at (has_lt t3)
  have uc := has_lt t3
  rw [za] at zc
  cases zc
  rw [hba] at hbc
  cases hbc
  rw [getD_get _ _ ua, getD_get _ _ ub, getD_get _ _ uc] at key
  by_cases va : p.slots[a] ≠ 1
  · simp -implicitDefEqProofs (disch := omega) only [go_sem, hb, hb2, za, hba, hra, hrb, hrc, Bool.not_true, Bool.not_false]
    exact key (by simp [va])
  have va : p.slots[a] = 1 := Decidable.byContradiction va
  by_cases vb : p.slots[b] ≠ 1
  · simp -implicitDefEqProofs (disch := omega) only [go_sem, hb, hb2, za, hba, hra, hrb, hrc, va, Bool.not_true, Bool.not_false]
    exact key (by simp [va, vb])
  have vb : p.slots[b] = 1 := Decidable.byContradiction vb
  by_cases vc : p.slots[c] ≠ 1
  · simp -implicitDefEqProofs (disch := omega) only [go_sem, hb, hb2, za, hba, hra, hrb, hrc, va, vb, Bool.not_true, Bool.not_false]
    exact key (by simp [va, vb, vc])
  have vc : p.slots[c] = 1 := Decidable.byContradiction vc
  simp -implicitDefEqProofs (disch := omega) only [go_sem, hb, hb2, za, hba, hra, hrb, hrc, va, vb, vc, Bool.not_true, Bool.not_false]
  exact key (by simp [va, vb, vc])
set_option maxHeartbeats 4000000 in
theorem fits_17 (U : Usual nat) {η : HN} {z : PV} {p : PD} {pc a b c : Nat} {Q : AV → HN → Prop} (hp : IsP η z p) (hf : Fine p) (ht : thereF p pc ⟨17, a, b, c⟩ = true) (h : ∀ η', ExtB η.nx η η' → Q (.bool (kindsF p ⟨17, a, b, c⟩)) η') : ∃ v η', CallN Try.prog nat 47 [.agg z.cells, .agg (Ins.cells ⟨17, a, b, c⟩)] η v η' ∧ Q v η' := by
  refine call_of (PT := pl47) Try.func47 rfl (U 47 (by decide)) ok47 rfl ?_
  have h1 := hf.ins.1
  have h2 := hf.outs.1
  have h3 := hf.slots.1
  have h4 := hf.mems.1
  have h5 := hf.consts.1
  have hcs : Ins.cells ⟨17, a, b, c⟩ = [.int .i64 17, .int .i64 a, .int .i64 b, .int .i64 c] := rfl
  have E : ExtB η.nx η ((η.new (.live false [z.z1, z.z2, z.z3, z.z4, z.z5, z.z6])).new (.live false [.int .i64 17, .int .i64 a, .int .i64 b, .int .i64 c])) := extN (extN (.refl _ _))
  have hb : ((η.new (.live false [z.z1, z.z2, z.z3, z.z4, z.z5, z.z6])).new (.live false [.int .i64 17, .int .i64 a, .int .i64 b, .int .i64 c])).f η.nx = .live false z.cells := by show (if η.nx = η.nx + 1 then _ else if η.nx = η.nx then _ else _) = _; rw [if_neg (by omega), if_pos rfl]
  have hb2 : ((η.new (.live false [z.z1, z.z2, z.z3, z.z4, z.z5, z.z6])).new (.live false [.int .i64 17, .int .i64 a, .int .i64 b, .int .i64 c])).f (η.nx + 1) = .live false [.int .i64 17, .int .i64 a, .int .i64 b, .int .i64 c] := by show (if η.nx + 1 = η.nx + 1 then _ else _) = _; rw [if_pos rfl]
  have hq := hp.ext E
  have ht : (true && (has p.slots a && (has p.slots b && has p.slots c))) = true := ht
  have key : ∀ {v : Bool}, (isF p 1 a && (isF p 1 b && isF p 1 c)) = v → Q (.bool v) ((η.new (.live false [z.z1, z.z2, z.z3, z.z4, z.z5, z.z6])).new (.live false [.int .i64 17, .int .i64 a, .int .i64 b, .int .i64 c])) := fun e => by rw [← e]; exact h _ E
  unfold isF at key
  clear h
  simp -implicitDefEqProofs (disch := omega) only [go_sem, hcs]
  generalize ((η.new (.live false [z.z1, z.z2, z.z3, z.z4, z.z5, z.z6])).new (.live false [.int .i64 17, .int .i64 a, .int .i64 b, .int .i64 c])) = η1 at *
  have ht := (and_lt ht).2
  obtain ⟨t1, ht⟩ := and_lt ht
  obtain ⟨t2, t3⟩ := and_lt ht
  obtain ⟨ba, offa, capa, roa, rowa, za, hba, hna, hra⟩ := hq.slots.at (has_lt t1)
  have ua := has_lt t1
  obtain ⟨bb, offb, capb, rob, rowb, zb, hbb, hnb, hrb⟩ := hq.slots.at (has_lt t2)
  have ub := has_lt t2
  rw [za] at zb
  cases zb
  rw [hba] at hbb
  cases hbb
  obtain ⟨bc, offc, capc, roc, rowc, zc, hbc, hnc, hrc⟩ := hq.slots.at (has_lt t3)
  have uc := has_lt t3
  rw [za] at zc
  cases zc
  rw [hba] at hbc
  cases hbc
  rw [getD_get _ _ ua, getD_get _ _ ub, getD_get _ _ uc] at key
  by_cases va : p.slots[a] ≠ 1
  · simp -implicitDefEqProofs (disch := omega) only [go_sem, hb, hb2, za, hba, hra, hrb, hrc, Bool.not_true, Bool.not_false]
    exact key (by simp [va])
  have va : p.slots[a] = 1 := Decidable.byContradiction va
  by_cases vb : p.slots[b] ≠ 1
  · simp -implicitDefEqProofs (disch := omega) only [go_sem, hb, hb2, za, hba, hra, hrb, hrc, va, Bool.not_true, Bool.not_false]
    exact key (by simp [va, vb])
  have vb : p.slots[b] = 1 := Decidable.byContradiction vb
  by_cases vc : p.slots[c] ≠ 1
  · simp -implicitDefEqProofs (disch := omega) only [go_sem, hb, hb2, za, hba, hra, hrb, hrc, va, vb, Bool.not_true, Bool.not_false]
    exact key (by simp [va, vb, vc])
  have vc : p.slots[c] = 1 := Decidable.byContradiction vc
  simp -implicitDefEqProofs (disch := omega) only [go_sem, hb, hb2, za, hba, hra, hrb, hrc, va, vb, vc, Bool.not_true, Bool.not_false]
  exact key (by simp [va, vb, vc])
set_option maxHeartbeats 4000000 in
theorem fits_18 (U : Usual nat) {η : HN} {z : PV} {p : PD} {pc a b c : Nat} {Q : AV → HN → Prop} (hp : IsP η z p) (hf : Fine p) (ht : thereF p pc ⟨18, a, b, c⟩ = true) (h : ∀ η', ExtB η.nx η η' → Q (.bool (kindsF p ⟨18, a, b, c⟩)) η') : ∃ v η', CallN Try.prog nat 47 [.agg z.cells, .agg (Ins.cells ⟨18, a, b, c⟩)] η v η' ∧ Q v η' := by
  refine call_of (PT := pl47) Try.func47 rfl (U 47 (by decide)) ok47 rfl ?_
  have h1 := hf.ins.1
  have h2 := hf.outs.1
  have h3 := hf.slots.1
  have h4 := hf.mems.1
  have h5 := hf.consts.1
  have hcs : Ins.cells ⟨18, a, b, c⟩ = [.int .i64 18, .int .i64 a, .int .i64 b, .int .i64 c] := rfl
  have E : ExtB η.nx η ((η.new (.live false [z.z1, z.z2, z.z3, z.z4, z.z5, z.z6])).new (.live false [.int .i64 18, .int .i64 a, .int .i64 b, .int .i64 c])) := extN (extN (.refl _ _))
  have hb : ((η.new (.live false [z.z1, z.z2, z.z3, z.z4, z.z5, z.z6])).new (.live false [.int .i64 18, .int .i64 a, .int .i64 b, .int .i64 c])).f η.nx = .live false z.cells := by show (if η.nx = η.nx + 1 then _ else if η.nx = η.nx then _ else _) = _; rw [if_neg (by omega), if_pos rfl]
  have hb2 : ((η.new (.live false [z.z1, z.z2, z.z3, z.z4, z.z5, z.z6])).new (.live false [.int .i64 18, .int .i64 a, .int .i64 b, .int .i64 c])).f (η.nx + 1) = .live false [.int .i64 18, .int .i64 a, .int .i64 b, .int .i64 c] := by show (if η.nx + 1 = η.nx + 1 then _ else _) = _; rw [if_pos rfl]
  have hq := hp.ext E
  have ht : (true && (has p.slots a && (has p.slots b && has p.slots c))) = true := ht
  have key : ∀ {v : Bool}, (isF p 1 a && (isF p 1 b && isF p 1 c)) = v → Q (.bool v) ((η.new (.live false [z.z1, z.z2, z.z3, z.z4, z.z5, z.z6])).new (.live false [.int .i64 18, .int .i64 a, .int .i64 b, .int .i64 c])) := fun e => by rw [← e]; exact h _ E
  unfold isF at key
  clear h
  simp -implicitDefEqProofs (disch := omega) only [go_sem, hcs]
  generalize ((η.new (.live false [z.z1, z.z2, z.z3, z.z4, z.z5, z.z6])).new (.live false [.int .i64 18, .int .i64 a, .int .i64 b, .int .i64 c])) = η1 at *
  have ht := (and_lt ht).2
  obtain ⟨t1, ht⟩ := and_lt ht
  obtain ⟨t2, t3⟩ := and_lt ht
  obtain ⟨ba, offa, capa, roa, rowa, za, hba, hna, hra⟩ := hq.slots.at (has_lt t1)
  have ua := has_lt t1
  obtain ⟨bb, offb, capb, rob, rowb, zb, hbb, hnb, hrb⟩ := hq.slots.at (has_lt t2)
  have ub := has_lt t2
  rw [za] at zb
  cases zb
  rw [hba] at hbb
  cases hbb
  obtain ⟨bc, offc, capc, roc, rowc, zc, hbc, hnc, hrc⟩ := hq.slots.at (has_lt t3)
  have uc := has_lt t3
  rw [za] at zc
  cases zc
  rw [hba] at hbc
  cases hbc
  rw [getD_get _ _ ua, getD_get _ _ ub, getD_get _ _ uc] at key
  by_cases va : p.slots[a] ≠ 1
  · simp -implicitDefEqProofs (disch := omega) only [go_sem, hb, hb2, za, hba, hra, hrb, hrc, Bool.not_true, Bool.not_false]
    exact key (by simp [va])
  have va : p.slots[a] = 1 := Decidable.byContradiction va
  by_cases vb : p.slots[b] ≠ 1
  · simp -implicitDefEqProofs (disch := omega) only [go_sem, hb, hb2, za, hba, hra, hrb, hrc, va, Bool.not_true, Bool.not_false]
    exact key (by simp [va, vb])
  have vb : p.slots[b] = 1 := Decidable.byContradiction vb
  by_cases vc : p.slots[c] ≠ 1
  · simp -implicitDefEqProofs (disch := omega) only [go_sem, hb, hb2, za, hba, hra, hrb, hrc, va, vb, Bool.not_true, Bool.not_false]
    exact key (by simp [va, vb, vc])
  have vc : p.slots[c] = 1 := Decidable.byContradiction vc
  simp -implicitDefEqProofs (disch := omega) only [go_sem, hb, hb2, za, hba, hra, hrb, hrc, va, vb, vc, Bool.not_true, Bool.not_false]
  exact key (by simp [va, vb, vc])
theorem fits_then (U : Usual nat) {η : HN} {z : PV} {p : PD} {pc : Nat} {i : Ins} {Q : AV → HN → Prop} (hp : IsP η z p) (hf : Fine p) (ht : thereF p pc i = true) (h : ∀ η', ExtB η.nx η η' → Q (.bool (kindsF p i)) η') : ∃ v η', CallN Try.prog nat 47 [.agg z.cells, .agg i.cells] η v η' ∧ Q v η' := by
  have hop := (there_facts ht).1
  obtain ⟨op, a, b, c⟩ := i
  dsimp only at hop
  by_cases q0 : op = 0
  · subst q0; exact fits_0 U hp hf ht h
  by_cases q1 : op = 1
  · subst q1; exact fits_1 U hp hf ht h
  by_cases q2 : op = 2
  · subst q2; exact fits_2 U hp hf ht h
  by_cases q3 : op = 3
  · subst q3; exact fits_3 U hp hf ht h
  by_cases q4 : op = 4
  · subst q4; exact fits_4 U hp hf ht h
  by_cases q5 : op = 5
  · subst q5; exact fits_5 U hp hf ht h
  by_cases q6 : op = 6
  · subst q6; exact fits_6 U hp hf ht h
  by_cases q7 : op = 7
  · subst q7; exact fits_7 U hp hf ht h
  by_cases q8 : op = 8
  · subst q8; exact fits_8 U hp hf ht h
  by_cases q9 : op = 9
  · subst q9; exact fits_9 U hp hf ht h
  by_cases q10 : op = 10
  · subst q10; exact fits_10 U hp hf ht h
  by_cases q11 : op = 11
  · subst q11; exact fits_11 U hp hf ht h
  by_cases q12 : op = 12
  · subst q12; exact fits_12 U hp hf ht h
  by_cases q13 : op = 13
  · subst q13; exact fits_13 U hp hf ht h
  by_cases q14 : op = 14
  · subst q14; exact fits_14 U hp hf ht h
  by_cases q15 : op = 15
  · subst q15; exact fits_15 U hp hf ht h
  by_cases q16 : op = 16
  · subst q16; exact fits_16 U hp hf ht h
  by_cases q17 : op = 17
  · subst q17; exact fits_17 U hp hf ht h
  by_cases q18 : op = 18
  · subst q18; exact fits_18 U hp hf ht h
  by_cases q19 : op = 19
  · subst q19; exact fits_19 U hp hf ht h
  by_cases q20 : op = 20
  · subst q20; exact fits_20 U hp hf ht h
  omega
end Go.Proofs.Ytjljolnhmmbkoaa
