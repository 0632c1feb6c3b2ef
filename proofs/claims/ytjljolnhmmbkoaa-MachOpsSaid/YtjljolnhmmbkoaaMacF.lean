/- What is proved: MachOps' walk. Conditions: as each theorem says. -/
import Derived.Test.YtjljolnhmmbkoaaMacE
import Derived.Test.YtjljolnhmmbkoaaPlain
set_option linter.unusedVariables false
set_option linter.unusedSimpArgs false
set_option linter.unusedSectionVars false
namespace Go.Proofs.Ytjljolnhmmbkoaa
open Go.Eng Go.Plain
set_option autoImplicit false
set_option maxRecDepth 100000
variable {nat : ∀ [Deep], Nats}
theorem setsL_step {l r : List AV} {i : Nat} {a : AV} : setsL l i (a :: r) = setsL (l.set i a) (i + 1) r := rfl
abbrev Wakes (nat : ∀ [Deep], Nats) : Prop := ∀ η, CallN Try.prog nat 22 [] η (.bool true) η
def opNames : List AV := [opStr 6, opStr 7, opStr 8, opStr 9, opStr 10, opStr 11, opStr 12, opStr 13, opStr 14, opStr 15, opStr 16, opStr 17, opStr 18]
theorem opNames_at {op : Nat} (h : 6 ≤ op ∧ op ≤ 18) : opNames[op - 6]? = some (opStr op) := by
  have : op = 6 ∨ op = 7 ∨ op = 8 ∨ op = 9 ∨ op = 10 ∨ op = 11 ∨ op = 12 ∨ op = 13 ∨ op = 14 ∨ op = 15 ∨ op = 16 ∨ op = 17 ∨ op = 18 := by omega
  rcases this with rfl | rfl | rfl | rfl | rfl | rfl | rfl | rfl | rfl | rfl | rfl | rfl | rfl <;> rfl
/-- what comes out of a program of one operator, and what the document reckons -/
noncomputable def outF (op a b : Nat) : Nat := if op = 6 then (1 + (18446744073709551616 - a)) % 18446744073709551616 else if op = 7 then (18446744073709551616 - a) % 18446744073709551616 else opF op a b
theorem op_outs {i o op a b : Nat} (h : 6 ≤ op ∧ op ≤ 18) : (stepM (opP i o op) [] [a, b]).outs = [outF op a b] := by
  unfold outF
  split
  · rename_i e; subst e; exact op_step6 i o a b
  split
  · rename_i e; subst e; exact op_step7 i o a b
  · exact op_step8 i o op a b (by omega) h.2
theorem refop_any (U : Usual nat) {η : HN} {y : AV} {op a b : Nat} (hop : 6 ≤ op ∧ op ≤ 18) (ha : a < 18446744073709551616) (hb : b < 18446744073709551616) (h01 : 16 ≤ op → (a = 0 ∨ a = 1) ∧ (b = 0 ∨ b = 1)) (hy : RdI .i64 η y [a, b]) : CallN Try.prog nat 40 [opStr op, y] η (.int .i64 (outF op a b)) η := by
  unfold outF
  split
  · rename_i e; subst e
    obtain ⟨v, η', k, rfl, rfl⟩ := refop_6 U hy
    exact k
  split
  · rename_i e; subst e
    obtain ⟨v, η', k, rfl, rfl⟩ := refop_7 U hy
    exact k
  · have := refop_call U (op := op) ⟨by omega, hop.2⟩ ha hb hy
    rw [ref_op ⟨by omega, hop.2⟩ ha h01] at this
    exact this
theorem op_fine {i o op : Nat} (hi : i < 3) (ho : o < 3) (h : op < 19) : Fine (opP i o op) := by
  refine ⟨⟨by simp [opP], ?_⟩, ⟨by simp [opP], ?_⟩, ⟨by simp [opP], ?_⟩, ⟨by simp [opP], ?_⟩, ⟨by simp [opP], ?_⟩, ⟨by simp [opP], ?_⟩⟩ <;> (simp [opP]; try omega)

set_option maxHeartbeats 2000000 in
theorem ops_a (U : Usual nat) (h22 : Wakes nat) (η : HN) (op a b : Nat) (hop : op = 6) (ha : a < 18446744073709551616) (hb : b < 18446744073709551616) :
    ∃ v η', CallN Try.prog nat 11 [.int .i64 op, .int .i64 a, .int .i64 b] η v η' ∧ v = .bool true := by
  refine call_of (PT := pl11) Try.func11 rfl (U 11 (by decide)) ok11 rfl ?_
  simp -implicitDefEqProofs (disch := omega) only [go_sem]
  refine thenN_call ⟨_, _, h22 _, ?_⟩
  have hnm : ([.str 3 7630702, .str 3 6776174, .str 1 43, .str 1 45, .str 1 42, .str 1 47, .str 3 6582125, .str 1 61, .str 1 60, .str 2 15676, .str 3 6581857, .str 2 29295, .str 3 7499640] : List AV)[op - 6]? = some (opStr op) := opNames_at (op := op) (by omega)
  have hr4 : repL 4 [AV.int .i64 0, .int .i64 0, .int .i64 0, .int .i64 0] = List.replicate 16 (.int .i64 0) := rfl
  have hr16 : List.replicate 16 (AV.int .i64 0) = [.int .i64 0, .int .i64 0, .int .i64 0, .int .i64 0, .int .i64 0, .int .i64 0, .int .i64 0, .int .i64 0, .int .i64 0, .int .i64 0, .int .i64 0, .int .i64 0, .int .i64 0, .int .i64 0, .int .i64 0, .int .i64 0] := rfl
  have hr13 : List.replicate 13 (AV.str 0 0) = [.str 0 0, .str 0 0, .str 0 0, .str 0 0, .str 0 0, .str 0 0, .str 0 0, .str 0 0, .str 0 0, .str 0 0, .str 0 0, .str 0 0, .str 0 0] := rfl
  simp -implicitDefEqProofs (disch := omega) only [go_sem, Bool.not_true, hnm, hr4, hr16, hr13, setsL_step, Nat.reduceMul, Nat.reduceAdd]
  have hck : (checkF (opP 1 1 op)).2 = 0 := by
    have := op_check1 op (by omega) (by omega)
    rw [if_pos (by omega), if_pos (by omega)] at this
    exact this
  refine thenN_call (new_then U (z := ⟨.slice η.nx 0 2 (.kn 2), .slice (η.nx + 1) 0 1 (.kn 1), .slice (η.nx + 1 + 1) 0 3 (.kn 3), .nilslice, .nilslice, .slice (η.nx + 1 + 1 + 1) 0 4 (.kn 4)⟩) (p := opP 1 1 op) ⟨?_, ?_, ?_, .inl ⟨rfl, .inl rfl⟩, .inl ⟨rfl, .inl rfl⟩, ?_⟩ (op_fine (by decide) (by decide) (by omega)) (fun h => absurd hck h) fun _ lo hi z' mp mb η3 M hlo E3 => ?_)
  · refine RdR.blk [[.int .i64 1], [.int .i64 1]] (ro := false) ?_ ?_ (by simp)
    · simp -implicitDefEqProofs (disch := omega) only [go_sem]; rfl
    · simp -implicitDefEqProofs (disch := omega) only [go_sem]; omega
  · refine RdR.blk [[.int .i64 1]] (ro := false) ?_ ?_ (by simp)
    · simp -implicitDefEqProofs (disch := omega) only [go_sem]; rfl
    · simp -implicitDefEqProofs (disch := omega) only [go_sem]; omega
  · refine RdR.blk [[.int .i64 1], [.int .i64 1], [.int .i64 1]] (ro := false) ?_ ?_ (by simp)
    · simp -implicitDefEqProofs (disch := omega) only [go_sem]; rfl
    · simp -implicitDefEqProofs (disch := omega) only [go_sem]; omega
  · refine RdR.blk [Ins.cells ⟨4, 0, 0, 0⟩, Ins.cells ⟨4, 1, 1, 0⟩, Ins.cells ⟨op, 2, 0, 1⟩, Ins.cells ⟨5, 0, 2, 0⟩] (ro := false) ?_ ?_ (by simp [Ins.cells])
    · simp -implicitDefEqProofs (disch := omega) only [go_sem]; rfl
    · simp -implicitDefEqProofs (disch := omega) only [go_sem]; omega
  simp -implicitDefEqProofs (disch := omega) only [go_sem, Bool.not_true]
  have m2 := M.at_
  have m3 := M.mat
  have M4 : MachAt lo hi (η3.new (.live false [.int .i64 (a &&& 1), .int .i64 (b &&& 1)])) mp mb z' (opP 1 1 op) _ 0 := M.keep (Nat.le_succ _) fun b hb _ => by show (if b = η3.nx then _ else _) = _; rw [if_neg (by omega)]
  have hab : (a &&& 1) < 18446744073709551616 ∧ (b &&& 1) < 18446744073709551616 := ⟨by rw [Nat.and_one_is_mod]; omega, by rw [Nat.and_one_is_mod]; omega⟩
  have h01 : 16 ≤ op → ((a &&& 1) = 0 ∨ (a &&& 1) = 1) ∧ ((b &&& 1) = 0 ∨ (b &&& 1) = 1) := fun _ => ⟨by rw [Nat.and_one_is_mod]; omega, by rw [Nat.and_one_is_mod]; omega⟩
  refine thenN_call (step_then U (inn := [(a &&& 1), (b &&& 1)]) M4 (op_fine (by decide) (by decide) (by omega)) hck (fun η5 n5 k5 => ?_) ⟨by simp, fun n hn => by rcases List.mem_cons.1 hn with rfl | hn; exact hab.1; rcases List.mem_cons.1 hn with rfl | hn; exact hab.2; cases hn⟩ (by decide) (fun h => ?_) fun _ yo η5 M5 O5 n5 k5 => ?_)
  · have n5 : η3.nx + 1 ≤ η5.nx := n5
    refine RdR.blk [[.int .i64 (a &&& 1)], [.int .i64 (b &&& 1)]] (ro := false) ((k5 η3.nx (Nat.lt_succ_self _) (by omega) (by omega)).trans ?_) (by omega) (by simp)
    show (if η3.nx = η3.nx then _ else _) = _
    rw [if_pos rfl]; rfl
  · rw [op_fit1 _ _ _ _ (by rw [Nat.and_one_is_mod]; omega) (by rw [Nat.and_one_is_mod]; omega)] at h; cases h
  have O5 : OutAt (η3.nx + 1) η5 yo [outF op (a &&& 1) (b &&& 1)] := by rw [← op_outs (i := 1) (o := 1) (op := op) (a := (a &&& 1)) (b := (b &&& 1)) (by omega)]; exact O5
  obtain ⟨bo, o1, o2, ⟨_, o3⟩ | ⟨cap, rfl, o3⟩⟩ := O5
  · cases o3
  have o3 : η5.f bo = .live false [.int .i64 (outF op (a &&& 1) (b &&& 1))] := o3
  rw [show [outF op (a &&& 1) (b &&& 1)].length = 1 from rfl]
  simp -implicitDefEqProofs (disch := omega) only [go_sem, o3]
  refine dE_call ⟨_, _, refop_any U (by omega) hab.1 hab.2 h01 (RdR.blk [[.int .i64 (a &&& 1)], [.int .i64 (b &&& 1)]] (ro := false) ?_ ?_ (by simp)), ?_⟩
  · simp -implicitDefEqProofs (disch := omega) only [go_sem]; rfl
  · simp -implicitDefEqProofs (disch := omega) only [go_sem]; omega
  simp -implicitDefEqProofs (disch := omega) only [go_sem, o3]
set_option maxHeartbeats 2000000 in
theorem ops_b (U : Usual nat) (h22 : Wakes nat) (η : HN) (op a b : Nat) (hop : 7 ≤ op ∧ op ≤ 12) (ha : a < 18446744073709551616) (hb : b < 18446744073709551616) :
    ∃ v η', CallN Try.prog nat 11 [.int .i64 op, .int .i64 a, .int .i64 b] η v η' ∧ v = .bool true := by
  refine call_of (PT := pl11) Try.func11 rfl (U 11 (by decide)) ok11 rfl ?_
  simp -implicitDefEqProofs (disch := omega) only [go_sem]
  refine thenN_call ⟨_, _, h22 _, ?_⟩
  have hnm : ([.str 3 7630702, .str 3 6776174, .str 1 43, .str 1 45, .str 1 42, .str 1 47, .str 3 6582125, .str 1 61, .str 1 60, .str 2 15676, .str 3 6581857, .str 2 29295, .str 3 7499640] : List AV)[op - 6]? = some (opStr op) := opNames_at (op := op) (by omega)
  have hr4 : repL 4 [AV.int .i64 0, .int .i64 0, .int .i64 0, .int .i64 0] = List.replicate 16 (.int .i64 0) := rfl
  have hr16 : List.replicate 16 (AV.int .i64 0) = [.int .i64 0, .int .i64 0, .int .i64 0, .int .i64 0, .int .i64 0, .int .i64 0, .int .i64 0, .int .i64 0, .int .i64 0, .int .i64 0, .int .i64 0, .int .i64 0, .int .i64 0, .int .i64 0, .int .i64 0, .int .i64 0] := rfl
  have hr13 : List.replicate 13 (AV.str 0 0) = [.str 0 0, .str 0 0, .str 0 0, .str 0 0, .str 0 0, .str 0 0, .str 0 0, .str 0 0, .str 0 0, .str 0 0, .str 0 0, .str 0 0, .str 0 0] := rfl
  simp -implicitDefEqProofs (disch := omega) only [go_sem, Bool.not_true, hnm, hr4, hr16, hr13, setsL_step, Nat.reduceMul, Nat.reduceAdd]
  have hck : (checkF (opP 2 2 op)).2 = 0 := by
    have := op_check1 op (by omega) (by omega)
    rw [if_neg (by omega), if_neg (by omega)] at this
    exact this
  refine thenN_call (new_then U (z := ⟨.slice η.nx 0 2 (.kn 2), .slice (η.nx + 1) 0 1 (.kn 1), .slice (η.nx + 1 + 1) 0 3 (.kn 3), .nilslice, .nilslice, .slice (η.nx + 1 + 1 + 1) 0 4 (.kn 4)⟩) (p := opP 2 2 op) ⟨?_, ?_, ?_, .inl ⟨rfl, .inl rfl⟩, .inl ⟨rfl, .inl rfl⟩, ?_⟩ (op_fine (by decide) (by decide) (by omega)) (fun h => absurd hck h) fun _ lo hi z' mp mb η3 M hlo E3 => ?_)
  · refine RdR.blk [[.int .i64 2], [.int .i64 2]] (ro := false) ?_ ?_ (by simp)
    · simp -implicitDefEqProofs (disch := omega) only [go_sem]; rfl
    · simp -implicitDefEqProofs (disch := omega) only [go_sem]; omega
  · refine RdR.blk [[.int .i64 2]] (ro := false) ?_ ?_ (by simp)
    · simp -implicitDefEqProofs (disch := omega) only [go_sem]; rfl
    · simp -implicitDefEqProofs (disch := omega) only [go_sem]; omega
  · refine RdR.blk [[.int .i64 2], [.int .i64 2], [.int .i64 2]] (ro := false) ?_ ?_ (by simp)
    · simp -implicitDefEqProofs (disch := omega) only [go_sem]; rfl
    · simp -implicitDefEqProofs (disch := omega) only [go_sem]; omega
  · refine RdR.blk [Ins.cells ⟨4, 0, 0, 0⟩, Ins.cells ⟨4, 1, 1, 0⟩, Ins.cells ⟨op, 2, 0, 1⟩, Ins.cells ⟨5, 0, 2, 0⟩] (ro := false) ?_ ?_ (by simp [Ins.cells])
    · simp -implicitDefEqProofs (disch := omega) only [go_sem]; rfl
    · simp -implicitDefEqProofs (disch := omega) only [go_sem]; omega
  simp -implicitDefEqProofs (disch := omega) only [go_sem, Bool.not_true]
  have m2 := M.at_
  have m3 := M.mat
  have M4 : MachAt lo hi (η3.new (.live false [.int .i64 a, .int .i64 b])) mp mb z' (opP 2 2 op) _ 0 := M.keep (Nat.le_succ _) fun b hb _ => by show (if b = η3.nx then _ else _) = _; rw [if_neg (by omega)]
  have hab : a < 18446744073709551616 ∧ b < 18446744073709551616 := ⟨ha, hb⟩
  have h01 : 16 ≤ op → (a = 0 ∨ a = 1) ∧ (b = 0 ∨ b = 1) := fun h => by omega
  refine thenN_call (step_then U (inn := [a, b]) M4 (op_fine (by decide) (by decide) (by omega)) hck (fun η5 n5 k5 => ?_) ⟨by simp, fun n hn => by rcases List.mem_cons.1 hn with rfl | hn; exact hab.1; rcases List.mem_cons.1 hn with rfl | hn; exact hab.2; cases hn⟩ (by decide) (fun h => ?_) fun _ yo η5 M5 O5 n5 k5 => ?_)
  · have n5 : η3.nx + 1 ≤ η5.nx := n5
    refine RdR.blk [[.int .i64 a], [.int .i64 b]] (ro := false) ((k5 η3.nx (Nat.lt_succ_self _) (by omega) (by omega)).trans ?_) (by omega) (by simp)
    show (if η3.nx = η3.nx then _ else _) = _
    rw [if_pos rfl]; rfl
  · rw [op_fit2] at h; cases h
  have O5 : OutAt (η3.nx + 1) η5 yo [outF op a b] := by rw [← op_outs (i := 2) (o := 2) (op := op) (a := a) (b := b) (by omega)]; exact O5
  obtain ⟨bo, o1, o2, ⟨_, o3⟩ | ⟨cap, rfl, o3⟩⟩ := O5
  · cases o3
  have o3 : η5.f bo = .live false [.int .i64 (outF op a b)] := o3
  rw [show [outF op a b].length = 1 from rfl]
  simp -implicitDefEqProofs (disch := omega) only [go_sem, o3]
  refine dE_call ⟨_, _, refop_any U (by omega) hab.1 hab.2 h01 (RdR.blk [[.int .i64 a], [.int .i64 b]] (ro := false) ?_ ?_ (by simp)), ?_⟩
  · simp -implicitDefEqProofs (disch := omega) only [go_sem]; rfl
  · simp -implicitDefEqProofs (disch := omega) only [go_sem]; omega
  simp -implicitDefEqProofs (disch := omega) only [go_sem, o3]
set_option maxHeartbeats 2000000 in
theorem ops_c (U : Usual nat) (h22 : Wakes nat) (η : HN) (op a b : Nat) (hop : 13 ≤ op ∧ op ≤ 15) (ha : a < 18446744073709551616) (hb : b < 18446744073709551616) :
    ∃ v η', CallN Try.prog nat 11 [.int .i64 op, .int .i64 a, .int .i64 b] η v η' ∧ v = .bool true := by
  refine call_of (PT := pl11) Try.func11 rfl (U 11 (by decide)) ok11 rfl ?_
  simp -implicitDefEqProofs (disch := omega) only [go_sem]
  refine thenN_call ⟨_, _, h22 _, ?_⟩
  have hnm : ([.str 3 7630702, .str 3 6776174, .str 1 43, .str 1 45, .str 1 42, .str 1 47, .str 3 6582125, .str 1 61, .str 1 60, .str 2 15676, .str 3 6581857, .str 2 29295, .str 3 7499640] : List AV)[op - 6]? = some (opStr op) := opNames_at (op := op) (by omega)
  have hr4 : repL 4 [AV.int .i64 0, .int .i64 0, .int .i64 0, .int .i64 0] = List.replicate 16 (.int .i64 0) := rfl
  have hr16 : List.replicate 16 (AV.int .i64 0) = [.int .i64 0, .int .i64 0, .int .i64 0, .int .i64 0, .int .i64 0, .int .i64 0, .int .i64 0, .int .i64 0, .int .i64 0, .int .i64 0, .int .i64 0, .int .i64 0, .int .i64 0, .int .i64 0, .int .i64 0, .int .i64 0] := rfl
  have hr13 : List.replicate 13 (AV.str 0 0) = [.str 0 0, .str 0 0, .str 0 0, .str 0 0, .str 0 0, .str 0 0, .str 0 0, .str 0 0, .str 0 0, .str 0 0, .str 0 0, .str 0 0, .str 0 0] := rfl
  simp -implicitDefEqProofs (disch := omega) only [go_sem, Bool.not_true, hnm, hr4, hr16, hr13, setsL_step, Nat.reduceMul, Nat.reduceAdd]
  have hck : (checkF (opP 2 1 op)).2 = 0 := by
    have := op_check1 op (by omega) (by omega)
    rw [if_neg (by omega), if_pos (by omega)] at this
    exact this
  refine thenN_call (new_then U (z := ⟨.slice η.nx 0 2 (.kn 2), .slice (η.nx + 1) 0 1 (.kn 1), .slice (η.nx + 1 + 1) 0 3 (.kn 3), .nilslice, .nilslice, .slice (η.nx + 1 + 1 + 1) 0 4 (.kn 4)⟩) (p := opP 2 1 op) ⟨?_, ?_, ?_, .inl ⟨rfl, .inl rfl⟩, .inl ⟨rfl, .inl rfl⟩, ?_⟩ (op_fine (by decide) (by decide) (by omega)) (fun h => absurd hck h) fun _ lo hi z' mp mb η3 M hlo E3 => ?_)
  · refine RdR.blk [[.int .i64 2], [.int .i64 2]] (ro := false) ?_ ?_ (by simp)
    · simp -implicitDefEqProofs (disch := omega) only [go_sem]; rfl
    · simp -implicitDefEqProofs (disch := omega) only [go_sem]; omega
  · refine RdR.blk [[.int .i64 1]] (ro := false) ?_ ?_ (by simp)
    · simp -implicitDefEqProofs (disch := omega) only [go_sem]; rfl
    · simp -implicitDefEqProofs (disch := omega) only [go_sem]; omega
  · refine RdR.blk [[.int .i64 2], [.int .i64 2], [.int .i64 1]] (ro := false) ?_ ?_ (by simp)
    · simp -implicitDefEqProofs (disch := omega) only [go_sem]; rfl
    · simp -implicitDefEqProofs (disch := omega) only [go_sem]; omega
  · refine RdR.blk [Ins.cells ⟨4, 0, 0, 0⟩, Ins.cells ⟨4, 1, 1, 0⟩, Ins.cells ⟨op, 2, 0, 1⟩, Ins.cells ⟨5, 0, 2, 0⟩] (ro := false) ?_ ?_ (by simp [Ins.cells])
    · simp -implicitDefEqProofs (disch := omega) only [go_sem]; rfl
    · simp -implicitDefEqProofs (disch := omega) only [go_sem]; omega
  simp -implicitDefEqProofs (disch := omega) only [go_sem, Bool.not_true]
  have m2 := M.at_
  have m3 := M.mat
  have M4 : MachAt lo hi (η3.new (.live false [.int .i64 a, .int .i64 b])) mp mb z' (opP 2 1 op) _ 0 := M.keep (Nat.le_succ _) fun b hb _ => by show (if b = η3.nx then _ else _) = _; rw [if_neg (by omega)]
  have hab : a < 18446744073709551616 ∧ b < 18446744073709551616 := ⟨ha, hb⟩
  have h01 : 16 ≤ op → (a = 0 ∨ a = 1) ∧ (b = 0 ∨ b = 1) := fun h => by omega
  refine thenN_call (step_then U (inn := [a, b]) M4 (op_fine (by decide) (by decide) (by omega)) hck (fun η5 n5 k5 => ?_) ⟨by simp, fun n hn => by rcases List.mem_cons.1 hn with rfl | hn; exact hab.1; rcases List.mem_cons.1 hn with rfl | hn; exact hab.2; cases hn⟩ (by decide) (fun h => ?_) fun _ yo η5 M5 O5 n5 k5 => ?_)
  · have n5 : η3.nx + 1 ≤ η5.nx := n5
    refine RdR.blk [[.int .i64 a], [.int .i64 b]] (ro := false) ((k5 η3.nx (Nat.lt_succ_self _) (by omega) (by omega)).trans ?_) (by omega) (by simp)
    show (if η3.nx = η3.nx then _ else _) = _
    rw [if_pos rfl]; rfl
  · rw [op_fit2] at h; cases h
  have O5 : OutAt (η3.nx + 1) η5 yo [outF op a b] := by rw [← op_outs (i := 2) (o := 1) (op := op) (a := a) (b := b) (by omega)]; exact O5
  obtain ⟨bo, o1, o2, ⟨_, o3⟩ | ⟨cap, rfl, o3⟩⟩ := O5
  · cases o3
  have o3 : η5.f bo = .live false [.int .i64 (outF op a b)] := o3
  rw [show [outF op a b].length = 1 from rfl]
  simp -implicitDefEqProofs (disch := omega) only [go_sem, o3]
  refine dE_call ⟨_, _, refop_any U (by omega) hab.1 hab.2 h01 (RdR.blk [[.int .i64 a], [.int .i64 b]] (ro := false) ?_ ?_ (by simp)), ?_⟩
  · simp -implicitDefEqProofs (disch := omega) only [go_sem]; rfl
  · simp -implicitDefEqProofs (disch := omega) only [go_sem]; omega
  simp -implicitDefEqProofs (disch := omega) only [go_sem, o3]
set_option maxHeartbeats 2000000 in
theorem ops_d (U : Usual nat) (h22 : Wakes nat) (η : HN) (op a b : Nat) (hop : 16 ≤ op ∧ op ≤ 18) (ha : a < 18446744073709551616) (hb : b < 18446744073709551616) :
    ∃ v η', CallN Try.prog nat 11 [.int .i64 op, .int .i64 a, .int .i64 b] η v η' ∧ v = .bool true := by
  refine call_of (PT := pl11) Try.func11 rfl (U 11 (by decide)) ok11 rfl ?_
  simp -implicitDefEqProofs (disch := omega) only [go_sem]
  refine thenN_call ⟨_, _, h22 _, ?_⟩
  have hnm : ([.str 3 7630702, .str 3 6776174, .str 1 43, .str 1 45, .str 1 42, .str 1 47, .str 3 6582125, .str 1 61, .str 1 60, .str 2 15676, .str 3 6581857, .str 2 29295, .str 3 7499640] : List AV)[op - 6]? = some (opStr op) := opNames_at (op := op) (by omega)
  have hr4 : repL 4 [AV.int .i64 0, .int .i64 0, .int .i64 0, .int .i64 0] = List.replicate 16 (.int .i64 0) := rfl
  have hr16 : List.replicate 16 (AV.int .i64 0) = [.int .i64 0, .int .i64 0, .int .i64 0, .int .i64 0, .int .i64 0, .int .i64 0, .int .i64 0, .int .i64 0, .int .i64 0, .int .i64 0, .int .i64 0, .int .i64 0, .int .i64 0, .int .i64 0, .int .i64 0, .int .i64 0] := rfl
  have hr13 : List.replicate 13 (AV.str 0 0) = [.str 0 0, .str 0 0, .str 0 0, .str 0 0, .str 0 0, .str 0 0, .str 0 0, .str 0 0, .str 0 0, .str 0 0, .str 0 0, .str 0 0, .str 0 0] := rfl
  simp -implicitDefEqProofs (disch := omega) only [go_sem, Bool.not_true, hnm, hr4, hr16, hr13, setsL_step, Nat.reduceMul, Nat.reduceAdd]
  have hck : (checkF (opP 1 1 op)).2 = 0 := by
    have := op_check1 op (by omega) (by omega)
    rw [if_pos (by omega), if_pos (by omega)] at this
    exact this
  refine thenN_call (new_then U (z := ⟨.slice η.nx 0 2 (.kn 2), .slice (η.nx + 1) 0 1 (.kn 1), .slice (η.nx + 1 + 1) 0 3 (.kn 3), .nilslice, .nilslice, .slice (η.nx + 1 + 1 + 1) 0 4 (.kn 4)⟩) (p := opP 1 1 op) ⟨?_, ?_, ?_, .inl ⟨rfl, .inl rfl⟩, .inl ⟨rfl, .inl rfl⟩, ?_⟩ (op_fine (by decide) (by decide) (by omega)) (fun h => absurd hck h) fun _ lo hi z' mp mb η3 M hlo E3 => ?_)
  · refine RdR.blk [[.int .i64 1], [.int .i64 1]] (ro := false) ?_ ?_ (by simp)
    · simp -implicitDefEqProofs (disch := omega) only [go_sem]; rfl
    · simp -implicitDefEqProofs (disch := omega) only [go_sem]; omega
  · refine RdR.blk [[.int .i64 1]] (ro := false) ?_ ?_ (by simp)
    · simp -implicitDefEqProofs (disch := omega) only [go_sem]; rfl
    · simp -implicitDefEqProofs (disch := omega) only [go_sem]; omega
  · refine RdR.blk [[.int .i64 1], [.int .i64 1], [.int .i64 1]] (ro := false) ?_ ?_ (by simp)
    · simp -implicitDefEqProofs (disch := omega) only [go_sem]; rfl
    · simp -implicitDefEqProofs (disch := omega) only [go_sem]; omega
  · refine RdR.blk [Ins.cells ⟨4, 0, 0, 0⟩, Ins.cells ⟨4, 1, 1, 0⟩, Ins.cells ⟨op, 2, 0, 1⟩, Ins.cells ⟨5, 0, 2, 0⟩] (ro := false) ?_ ?_ (by simp [Ins.cells])
    · simp -implicitDefEqProofs (disch := omega) only [go_sem]; rfl
    · simp -implicitDefEqProofs (disch := omega) only [go_sem]; omega
  simp -implicitDefEqProofs (disch := omega) only [go_sem, Bool.not_true]
  have m2 := M.at_
  have m3 := M.mat
  have M4 : MachAt lo hi (η3.new (.live false [.int .i64 (a &&& 1), .int .i64 (b &&& 1)])) mp mb z' (opP 1 1 op) _ 0 := M.keep (Nat.le_succ _) fun b hb _ => by show (if b = η3.nx then _ else _) = _; rw [if_neg (by omega)]
  have hab : (a &&& 1) < 18446744073709551616 ∧ (b &&& 1) < 18446744073709551616 := ⟨by rw [Nat.and_one_is_mod]; omega, by rw [Nat.and_one_is_mod]; omega⟩
  have h01 : 16 ≤ op → ((a &&& 1) = 0 ∨ (a &&& 1) = 1) ∧ ((b &&& 1) = 0 ∨ (b &&& 1) = 1) := fun _ => ⟨by rw [Nat.and_one_is_mod]; omega, by rw [Nat.and_one_is_mod]; omega⟩
  refine thenN_call (step_then U (inn := [(a &&& 1), (b &&& 1)]) M4 (op_fine (by decide) (by decide) (by omega)) hck (fun η5 n5 k5 => ?_) ⟨by simp, fun n hn => by rcases List.mem_cons.1 hn with rfl | hn; exact hab.1; rcases List.mem_cons.1 hn with rfl | hn; exact hab.2; cases hn⟩ (by decide) (fun h => ?_) fun _ yo η5 M5 O5 n5 k5 => ?_)
  · have n5 : η3.nx + 1 ≤ η5.nx := n5
    refine RdR.blk [[.int .i64 (a &&& 1)], [.int .i64 (b &&& 1)]] (ro := false) ((k5 η3.nx (Nat.lt_succ_self _) (by omega) (by omega)).trans ?_) (by omega) (by simp)
    show (if η3.nx = η3.nx then _ else _) = _
    rw [if_pos rfl]; rfl
  · rw [op_fit1 _ _ _ _ (by rw [Nat.and_one_is_mod]; omega) (by rw [Nat.and_one_is_mod]; omega)] at h; cases h
  have O5 : OutAt (η3.nx + 1) η5 yo [outF op (a &&& 1) (b &&& 1)] := by rw [← op_outs (i := 1) (o := 1) (op := op) (a := (a &&& 1)) (b := (b &&& 1)) (by omega)]; exact O5
  obtain ⟨bo, o1, o2, ⟨_, o3⟩ | ⟨cap, rfl, o3⟩⟩ := O5
  · cases o3
  have o3 : η5.f bo = .live false [.int .i64 (outF op (a &&& 1) (b &&& 1))] := o3
  rw [show [outF op (a &&& 1) (b &&& 1)].length = 1 from rfl]
  simp -implicitDefEqProofs (disch := omega) only [go_sem, o3]
  refine dE_call ⟨_, _, refop_any U (by omega) hab.1 hab.2 h01 (RdR.blk [[.int .i64 (a &&& 1)], [.int .i64 (b &&& 1)]] (ro := false) ?_ ?_ (by simp)), ?_⟩
  · simp -implicitDefEqProofs (disch := omega) only [go_sem]; rfl
  · simp -implicitDefEqProofs (disch := omega) only [go_sem]; omega
  simp -implicitDefEqProofs (disch := omega) only [go_sem, o3]
theorem ops_spec (U : Usual nat) (h22 : Wakes nat) (η : HN) (op a b : Nat) (hop : op < 18446744073709551616) (ha : a < 18446744073709551616) (hb : b < 18446744073709551616) :
    ∃ v η', CallN Try.prog nat 11 [.int .i64 op, .int .i64 a, .int .i64 b] η v η' ∧ v = .bool true := by
  by_cases s0 : 6 ≤ op ∧ op ≤ 18
  · by_cases s1 : op = 6
    · exact ops_a U h22 η op a b s1 ha hb
    by_cases s2 : op ≤ 12
    · exact ops_b U h22 η op a b (by omega) ha hb
    by_cases s3 : op ≤ 15
    · exact ops_c U h22 η op a b (by omega) ha hb
    · exact ops_d U h22 η op a b (by omega) ha hb
  · refine call_of (PT := pl11) Try.func11 rfl (U 11 (by decide)) ok11 rfl ?_
    simp -implicitDefEqProofs (disch := omega) only [go_sem]
    refine thenN_call ⟨_, _, h22 _, ?_⟩
    by_cases s1 : 9223372036854775807 < op
    · have hlt := ltN_neg s1
      have hlt6 : ltN .i64 op 6 = true := by
        rw [← hlt]
        have h1 : nneg .i64 op = false := nneg_big (by omega)
        have h2 : nneg .i64 6 = true := rfl
        have h3 : nneg .i64 0 = true := rfl
        unfold ltN
        rw [h1, h2, h3]; rfl
      simp -implicitDefEqProofs (disch := omega) only [go_sem, Bool.not_true, hlt6]
    · by_cases s2 : op < 6
      · simp -implicitDefEqProofs (disch := omega) only [go_sem, Bool.not_true]
      · simp -implicitDefEqProofs (disch := omega) only [go_sem, Bool.not_true]

end Go.Proofs.Ytjljolnhmmbkoaa
