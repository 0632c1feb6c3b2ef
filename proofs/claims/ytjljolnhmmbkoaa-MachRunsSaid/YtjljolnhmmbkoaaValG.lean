/- What is proved: the document's own check's first three rules. ValidSays' walk. Conditions: as each theorem says. -/
import Derived.Test.YtjljolnhmmbkoaaValF
import Derived.Test.YtjljolnhmmbkoaaWM
import Derived.Test.YtjljolnhmmbkoaaMacA
set_option linter.unusedVariables false
set_option linter.unusedSimpArgs false
set_option linter.unusedSectionVars false
namespace Go.Proofs.Ytjljolnhmmbkoaa
open Go.Eng Go.Plain
set_option autoImplicit false
set_option maxRecDepth 100000
variable {nat : ∀ [Deep], Nats}
def rkI (η0 : HN) (n : Nat) (y : AV) (l : List Nat) (m : Nat) (φ : FN) (η : HN) : Prop := η = η0 ∧ ∃ i, m = l.length - i ∧ i ≤ l.length ∧ φ 1 = .ptr n 0 ∧ φ 4 = y ∧ φ 5 = .int .i64 i ∧ ∀ x ∈ l.take i, kdOk x = true
def rcI (c : Nat) (η0 : HN) (z : PV) (p : PD) (f : Nat → Ins → Bool) (m : Nat) (φ : FN) (η : HN) : Prop := ∃ pc, m = p.code.length - pc ∧ pc ≤ p.code.length ∧ φ 1 = .ptr η0.nx 0 ∧ φ 6 = .int .i64 p.code.length ∧ φ c = .int .i64 pc ∧
 ExtB η0.nx η0 η ∧ η0.nx < η.nx ∧ η.f η0.nx = .live false z.cells ∧ firstF f (p.code.drop pc) pc = firstF f p.code 0
def rdQ (η0 : HN) (p : PD) (v : AV) (η : HN) : Prop := v = .tup [.int .i64 (checkF p).1, .int .i64 (checkF p).2] ∧ ExtB η0.nx η0 η
theorem parts_split (p : PD) : partsF p = (decide (p.slots.length ≤ 1024 ∧ p.mems.length ≤ 1024 ∧ p.consts.length ≤ 1024 ∧ p.ins.length ≤ 64 ∧ p.outs.length ≤ 64 ∧ p.code.length ≤ 8192) && (p.ins ++ p.outs ++ p.slots ++ p.mems).all kdOk) := by
 unfold partsF
 rw [List.all_append, List.all_append, List.all_append]
 by_cases h1 : p.slots.length ≤ 1024 <;> by_cases h2 : p.mems.length ≤ 1024 <;> by_cases h3 : p.consts.length ≤ 1024 <;> by_cases h4 : p.ins.length ≤ 64 <;> by_cases h5 : p.outs.length ≤ 64 <;> by_cases h6 : p.code.length ≤ 8192 <;> simp [h1, h2, h3, h4, h5, h6, Bool.and_assoc]
def reI (η0 : HN) (bl : Nat) (z : PV) (p : PD) (m : Nat) (φ : FN) (η : HN) : Prop := ∃ pc st row, m = p.code.length - pc ∧ pc ≤ p.code.length ∧ φ 1 = .ptr η0.nx 0 ∧ φ 6 = .int .i64 p.code.length ∧ φ 9 = .slice bl 0 (p.code.length + 1) (.kn (p.code.length + 1)) ∧ φ 10 = .int .i64 pc ∧
 ExtB η0.nx η0 η ∧ η0.nx < bl ∧ η.f η0.nx = .live false z.cells ∧ DoneAt η bl p.code.length pc p.slots.length p.outs.length row st ∧ followF (p.code.drop pc) pc st = followF p.code 0 (startF p)
def riI (η0 : HN) (a1 a6 a9 a11 y : AV) (n : Nat) (l : List Nat) (d : List Bool) (m : Nat) (φ : FN) (η : HN) : Prop := η = η0 ∧ ∃ i, m = l.length - i ∧ i ≤ l.length ∧ φ 1 = a1 ∧ φ 6 = a6 ∧ φ 9 = a9 ∧ φ 10 = .int .i64 n ∧ φ 11 = a11 ∧ φ 12 = y ∧ φ 13 = .int .i64 i ∧ ∀ x ∈ l.take i, d.getD x false = true
def roI (η0 : HN) (a1 a6 a9 : AV) (n : Nat) (q : Nat → Bool) (m : Nat) (φ : FN) (η : HN) : Prop := η = η0 ∧ ∃ i, m = n - i ∧ i ≤ n ∧ φ 1 = a1 ∧ φ 6 = a6 ∧ φ 9 = a9 ∧ φ 16 = .int .i64 i ∧ ∀ j, j < i → q j = true
theorem getD_app2 (l m : List Bool) (n : Nat) : (l ++ m).getD (l.length + n) false = m.getD n false := by
 rw [List.getD_eq_getElem?_getD, List.getD_eq_getElem?_getD, List.getElem?_append_right (by omega), Nat.add_sub_cancel_left]
theorem getD_app (l m : List Bool) (n : Nat) (h : n < l.length) : (l ++ m).getD n false = l.getD n false := by
 rw [List.getD_eq_getElem?_getD, List.getD_eq_getElem?_getD, List.getElem?_append_left h]
set_option maxHeartbeats 20000000 in
theorem refcheck_spec (U : Usual nat) (η : HN) (z : PV) (p : PD) (hp : IsP η z p) (hf : Fine p) : ∃ v η', CallN Try.prog nat 19 [.agg z.cells] η v η' ∧ rdQ η p v η' := by
 refine call_of (PT := pl19) Try.func19 rfl (U 19 (by decide)) ok19 rfl ?_
 have l1 := rdI_len hp.ins hf.ins.1
 have l2 := rdI_len hp.outs hf.outs.1
 have l3 := rdI_len hp.slots hf.slots.1
 have l4 := rdI_len hp.mems hf.mems.1
 have l5 := rdI_len hp.consts hf.consts.1
 have l6 := rdC_len hp.code hf.code.1
 have b1 := hf.ins.1
 have b2 := hf.outs.1
 have b3 := hf.slots.1
 have b4 := hf.mems.1
 have b5 := hf.consts.1
 have b6 := hf.code.1
 have E1 : ExtB η.nx η (η.new (.live false z.cells)) := extN (.refl _ _)
 have hps := parts_split p
 unfold rdQ checkF
 by_cases s1 : 1024 < p.slots.length
 ·rw [decide_eq_false (by omega), Bool.false_and] at hps
  rw [hps]
  simp -implicitDefEqProofs (disch := omega) only [go_sem, l1, l2, l3, l4, l5, l6]
  exact E1
 by_cases s2 : 1024 < p.mems.length
 ·rw [decide_eq_false (by omega), Bool.false_and] at hps
  rw [hps]
  simp -implicitDefEqProofs (disch := omega) only [go_sem, l1, l2, l3, l4, l5, l6]
  exact E1
 by_cases s3 : 1024 < p.consts.length
 ·rw [decide_eq_false (by omega), Bool.false_and] at hps
  rw [hps]
  simp -implicitDefEqProofs (disch := omega) only [go_sem, l1, l2, l3, l4, l5, l6]
  exact E1
 by_cases s4 : 64 < p.ins.length
 ·rw [decide_eq_false (by omega), Bool.false_and] at hps
  rw [hps]
  simp -implicitDefEqProofs (disch := omega) only [go_sem, l1, l2, l3, l4, l5, l6]
  exact E1
 by_cases s5 : 64 < p.outs.length
 ·rw [decide_eq_false (by omega), Bool.false_and] at hps
  rw [hps]
  simp -implicitDefEqProofs (disch := omega) only [go_sem, l1, l2, l3, l4, l5, l6]
  exact E1
 by_cases s6 : 8192 < p.code.length
 ·rw [decide_eq_false (by omega), Bool.false_and] at hps
  rw [hps]
  simp -implicitDefEqProofs (disch := omega) only [go_sem, l1, l2, l3, l4, l5, l6]
  exact E1
 rw [decide_eq_true (by omega), Bool.true_and] at hps
 have n1 : (η.new (.live false z.cells)).nx = η.nx + 1 := rfl
 have x1 : (η.new (.live false z.cells)).f η.nx = .live false z.cells := by show (if η.nx = η.nx then _ else _) = _; rw [if_pos rfl]
 simp -implicitDefEqProofs (disch := omega) only [go_sem, l1, l2, l3, l4, l5, l6]
 have q1 := hp.ext E1
 refine dE_app (base := η.nx + 1) (n := 0) (l := []) (m := p.ins.length) (k := p.ins.map (.int .i64)) (by decide) ⟨rfl, .inr ⟨_, Nat.le_refl _, ?_, .inl ⟨rfl, rfl, [], ?_⟩⟩⟩ (rdI_ext hp.ins ?_).toA (by omega) ?_ fun y2 η2 o2 E2 => ?_
 ·simp -implicitDefEqProofs (disch := omega) only [go_sem]
  omega
 ·simp -implicitDefEqProofs (disch := omega) only [go_sem]
 ·exact extA (extN (extA E1))
 ·simp -implicitDefEqProofs (disch := omega) only [go_sem]
  omega
 have x2 : η2.f η.nx = .live false z.cells := (E2.2 η.nx (Nat.lt_succ_self _)).trans (by simp -implicitDefEqProofs (disch := omega) only [go_sem])
 have g2 := E2.1
 simp -implicitDefEqProofs only [at_nx, new_nx] at g2
 have F2 : ExtB η.nx η η2 := ⟨by omega, fun b hb => (E2.2 b (by omega)).trans (by simp -implicitDefEqProofs (disch := omega) only [go_sem])⟩
 simp -implicitDefEqProofs (disch := omega) only [go_sem, x1, x2]
 refine dE_app (base := η.nx + 1) (by decide) o2 (rdI_ext hp.outs F2).toA (by omega) (by omega) fun y3 η3 o3 E3 => ?_
 have x3 := (E3.2 η.nx (Nat.lt_succ_self _)).trans x2
 have g3 := E3.1
 have F3 : ExtB η.nx η η3 := ⟨by omega, fun b hb => (E3.2 b (by omega)).trans (F2.2 b hb)⟩
 simp -implicitDefEqProofs (disch := omega) only [go_sem, x1, x2, x3]
 refine dE_app (base := η.nx + 1) (by decide) o3 (rdI_ext hp.slots F3).toA (by omega) (by omega) fun y4 η4 o4 E4 => ?_
 have x4 := (E4.2 η.nx (Nat.lt_succ_self _)).trans x3
 have g4 := E4.1
 have F4 : ExtB η.nx η η4 := ⟨by omega, fun b hb => (E4.2 b (by omega)).trans (F3.2 b hb)⟩
 simp -implicitDefEqProofs (disch := omega) only [go_sem, x1, x2, x3, x4]
 refine dE_app (base := η.nx + 1) (by decide) o4 (rdI_ext hp.mems F4).toA (by omega) (by omega) fun y5 η5 o5 E5 => ?_
 have x5 := (E5.2 η.nx (Nat.lt_succ_self _)).trans x4
 have g5 := E5.1
 have F5 : ExtB η.nx η η5 := ⟨by omega, fun b hb => (E5.2 b (by omega)).trans (F4.2 b hb)⟩
 simp -implicitDefEqProofs (disch := omega) only [go_sem, x1, x2, x3, x4, x5, not_le_f, false_implies, implies_true, true_and, and_true]
 have r5 := o5.rd
 rw [List.nil_append, ← List.map_append, ← List.map_append, ← List.map_append] at r5
 have hal : (p.ins ++ p.outs ++ p.slots ++ p.mems).length = 0 + p.ins.length + p.outs.length + p.slots.length + p.mems.length := by simp; omega
 rw [← hal] at r5
 generalize p.ins ++ p.outs ++ p.slots ++ p.mems = all at *
 have nl : all.length ≤ 4096 := by omega
 have hn5 : η.nx < η5.nx := by omega
 clear o2 o3 o4 o5 E2 E3 E4 E5 F2 F3 F4 x2 x3 x4 g2 g3 g4
 have l0 : ∀ e y' η', lenN (.slice e 1 y') y5 η' = .ok (.int .i64 all.length) η' := fun e y' η' => RdA.len r5 (by omega)
 refine wpN_loop (rkI η5 η.nx y5 all) all.length ⟨rfl, 0, by omega, by omega, rfl, rfl, rfl, by simp⟩ ?_
 rintro m φ η6 ⟨rfl, i, hm, hi, p1, p4, p5, hall⟩
 by_cases hlt : i < all.length
 ·obtain ⟨bk, offk, capk, rok, rowk, y5e, hbk, hbkn, hlm, hrk⟩ := r5.at1 hlt
  simp only [List.getElem_map] at hrk
  rw [y5e] at p4 l0
  have bad : kdOk all[i] = false → partsF p = false := fun e => by
   rw [hps]
   cases hq : all.all kdOk with
   | false => rfl
   | true => rw [List.all_eq_true] at hq; rw [hq _ (List.getElem_mem hlt)] at e; cases e
  by_cases k1 : all[i] = 1
  ·simp -implicitDefEqProofs (disch := omega) only [go_sem, p1, p4, p5, l0, hbk, hrk, Bool.not_true, k1]
   exact ⟨_, by omega, rfl, i + 1, rfl, by omega, p1, y5e ▸ p4, rfl, all_take hall hlt (by rw [k1]; rfl)⟩
  by_cases k2 : all[i] = 2
  ·simp -implicitDefEqProofs (disch := omega) only [go_sem, p1, p4, p5, l0, hbk, hrk, Bool.not_true, Bool.not_false, k2]
   exact ⟨_, by omega, rfl, i + 1, rfl, by omega, p1, y5e ▸ p4, rfl, all_take hall hlt (by rw [k2]; rfl)⟩
  have bad := bad (by unfold kdOk; rw [decide_eq_false k1, decide_eq_false k2]; rfl)
  rw [bad]
  simp -implicitDefEqProofs (disch := omega) only [go_sem, p1, p4, p5, l0, hbk, hrk, Bool.not_true, Bool.not_false]
  exact F5
 obtain rfl : i = all.length := by omega
 rw [List.take_length] at hall
 have hpa : partsF p = true := by
  rw [hps, List.all_eq_true]; exact hall
 rw [hpa, if_pos rfl]
 simp -implicitDefEqProofs (disch := omega) only [go_sem, p1, p4, p5, l0, x5, l6]
 refine wpN_loop (rcI 7 η z p (thereF p)) p.code.length ⟨0, by omega, by omega, p1, rfl, rfl, F5, by omega, x5, rfl⟩ ?_
 clear hall hps r5 l0 p1 p4 p5 hm hi hlt
 rintro m φ η7 ⟨pc, hm, hpc, p1, p6, p7, F7, g7, x7, hfr⟩
 by_cases hlt : pc < p.code.length
 ·simp -implicitDefEqProofs (disch := omega) only [go_sem, p1, p6, p7, x7]
  rw [List.drop_eq_getElem_cons hlt, firstF] at hfr
  refine thenN_call (named_then U (hp.ext F7) hf hlt rfl fun η8 E8 => ?_)
  have F8 := extT F7 E8
  have g8 := E8.1
  have x8 := (E8.2 _ g7).trans x7
  cases hx : thereF p pc p.code[pc] with
  | false =>
   rw [hx, if_neg (by decide)] at hfr
   rw [← hfr]
   simp -implicitDefEqProofs (disch := omega) only [go_sem, p1, p6, p7, Bool.not_false]
   exact F8
  | true =>
   rw [hx, if_pos rfl] at hfr
   simp -implicitDefEqProofs (disch := omega) only [go_sem, p1, p6, p7, Bool.not_true]
   exact ⟨_, by omega, pc + 1, rfl, by omega, p1, p6, rfl, F8, by omega, x8, hfr⟩
 obtain rfl : pc = p.code.length := by omega
 rw [List.drop_length, firstF] at hfr
 have hth := hfr.symm
 rw [hth]
 simp -implicitDefEqProofs (disch := omega) only [go_sem, p1, p6, p7]
 refine wpN_loop (rcI 8 η z p (fun _ => kindsF p)) p.code.length ⟨0, by omega, by omega, p1, p6, rfl, F7, by omega, x7, rfl⟩ ?_
 clear hfr p1 p6 p7 hm hpc hlt F7 g7 x7 F5 g5 x5 E1
 rintro m φ η9 ⟨pc, hm, hpc, p1, p6, p7, F9, g9, x9, hfr⟩
 by_cases hlt : pc < p.code.length
 ·obtain ⟨bc, offc, capc, roc, rowc, z6e, hbc, hbcn, hlc, hrc⟩ := RdR.at (i := pc) (hp.ext F9).code (by simpa using hlt)
  simp only [List.length_map, List.getElem_map] at z6e hrc
  simp -implicitDefEqProofs (disch := omega) only [go_sem, p1, p6, p7, x9, z6e, hbc, hrc]
  rw [← z6e]
  rw [List.drop_eq_getElem_cons hlt, firstF] at hfr
  refine dE_call (fits_then U (z := z) (pc := pc) (hp.ext F9) hf (by have := first_none hth pc hlt; rwa [Nat.zero_add] at this) fun η10 E10 => ?_)
  have F10 := extT F9 E10
  have g10 := E10.1
  have x10 := (E10.2 _ g9).trans x9
  cases hx : kindsF p p.code[pc] with
  | false =>
   rw [hx, if_neg (by decide)] at hfr
   rw [← hfr]
   simp -implicitDefEqProofs (disch := omega) only [go_sem, p1, p6, p7, Bool.not_false]
   exact F10
  | true =>
   rw [hx, if_pos rfl] at hfr
   simp -implicitDefEqProofs (disch := omega) only [go_sem, p1, p6, p7, Bool.not_true]
   exact ⟨_, by omega, pc + 1, rfl, by omega, p1, p6, rfl, F10, by omega, x10, hfr⟩
 obtain rfl : pc = p.code.length := by omega
 rw [List.drop_length, firstF] at hfr
 have hkd := hfr.symm
 rw [hkd]
 dsimp only
 have hn1 : ¬24 = 0 ∧ (p.code.length + 1) * 24 ≤ 140737488355328 := ⟨by decide, by omega⟩
 have hn2 : ¬1 = 0 ∧ p.slots.length + p.outs.length ≤ 140737488355328 := ⟨by decide, by omega⟩
 have hrep : ∀ k : Nat, List.replicate k (AV.bool false) = boolsA (List.replicate k false) := fun k => by unfold boolsA; rw [List.map_replicate]
 simp -implicitDefEqProofs (disch := omega) only [go_sem, p1, p6, p7, if_pos hn1, if_pos hn2, x9, l2, l3, hrep]
 have l7 : (List.replicate (p.code.length + 1) AV.nilslice).length = p.code.length + 1 := List.length_replicate
 have hst : ∀ q d, startF p q = some d → q = 0 ∧ d = (List.replicate p.slots.length false, List.replicate p.outs.length false) := fun q d h => by
  unfold startF at h
  split at h
  ·rename_i e; cases h; exact ⟨e, rfl⟩
  ·cases h
 refine wpN_loop (reI η η9.nx z p) p.code.length ⟨0, startF p, (List.replicate (p.code.length + 1) AV.nilslice).set 0 (.slice (η9.nx + 1) 0 (p.slots.length + p.outs.length) (.kn (p.slots.length + p.outs.length))), by omega, by omega, p1, p6, rfl, rfl, ?_, g9, ?_, ⟨?_, ?_, fun q _ hq => ?_, fun q d _ h => ?_, ?_⟩, rfl⟩ ?_
 ·exact F9.trans ((extP (extN (extN (.refl _ _)))).mono F9.1)
 ·simp -implicitDefEqProofs (disch := omega) only [go_sem, x9]
 ·simp -implicitDefEqProofs (disch := omega) only [go_sem]
 ·rw [List.length_set, List.length_replicate]
 ·by_cases h0 : q = 0
  ·subst h0
   refine ⟨η9.nx + 1, .kn (p.slots.length + p.outs.length), List.getElem?_set_self (by omega), by omega, by show η9.nx + 1 < η9.nx + 1 + 1; omega, ?_⟩
   simp -implicitDefEqProofs (disch := omega) only [go_sem]
   rw [List.replicate_append_replicate]
  ·have e : startF p q = none := if_neg h0
   rw [e]
   show _[q]? = _
   rw [List.getElem?_set_ne (by omega), List.getElem?_replicate, if_pos (by omega)]
 ·obtain ⟨_, rfl⟩ := hst q d h
  exact ⟨List.length_replicate, List.length_replicate⟩
 ·simp -implicitDefEqProofs (disch := omega) only [go_sem]
  omega
 clear hfr p1 p6 p7 hm hpc hlt x9
 rintro m φ η11 ⟨pc, st, row, hm, hpc, p1, p6, p9, p10, F11, hblg, x11, D, hfol⟩
 have hbl11 := D.blk
 have hbln := D.bl
 have hrl := D.len
 by_cases hlt : pc < p.code.length
 ·have hdrop := List.drop_eq_getElem_cons hlt
  rw [hdrop] at hfol
  cases hst : st pc with
  | none =>
   have hrow : row[pc]? = some .nilslice := by have := D.at_ pc (Nat.le_refl _) hpc; rw [hst] at this; exact this
   rw [followF, hst] at hfol
   simp -implicitDefEqProofs (disch := omega) only [go_sem, p1, p6, p9, p10, hbl11, hrow]
   exact ⟨_, by omega, pc + 1, st, row, rfl, by omega, p1, p6, p9, rfl, F11, hblg, x11, D.up, hfol⟩
  | some d =>
   obtain ⟨bd, capd, hrow, hbd1, hbd2, hbd3⟩ : PlD η11 η9.nx (p.slots.length + p.outs.length) row pc (some d) := by have := D.at_ pc (Nat.le_refl _) hpc; rw [hst] at this; exact this
   have ld := D.lens pc d (Nat.le_refl _) hst
   rw [followF, hst] at hfol
   obtain ⟨bc, offc, capc, roc, rowc, z6e, hbc, hbcn, hlc, hrc⟩ := RdR.at (i := pc) (hp.ext F11).code (by simpa using hlt)
   simp only [List.length_map, List.getElem_map] at z6e hrc
   have hi := first_none hth pc hlt
   rw [Nat.zero_add] at hi
   obtain ⟨f1, f2, f3, f4, f5⟩ := there_facts hi
   have fb := hf.code.2 _ (List.getElem_mem hlt)
   have hsz : (Ins.cells p.code[pc]).length = 4 := rfl
   generalize p.code[pc] = i at *
   obtain ⟨op, a, b, c⟩ := i
   have hcs : Ins.cells ⟨op, a, b, c⟩ = [.int .i64 op, .int .i64 a, .int .i64 b, .int .i64 c] := rfl
   rw [hcs] at hrc
   dsimp only at f1 f3 f4 f5 fb hfol
   obtain ⟨fb0, fb1, fb2, fb3⟩ := fb
   simp -implicitDefEqProofs (disch := omega) only [go_sem, p1, p6, p9, p10, hbl11, hrow, x11, z6e, hbc, hrc]
   have E12 : ExtB η11.nx η11 ((η11.new (.live false [.int .i64 0, .int .i64 0, .int .i64 0, .int .i64 0])).put η11.nx (.live false [.int .i64 op, .int .i64 a, .int .i64 b, .int .i64 c])) := extP (extN (.refl _ _))
   have n12 : ((η11.new (.live false [.int .i64 0, .int .i64 0, .int .i64 0, .int .i64 0])).put η11.nx (.live false [.int .i64 op, .int .i64 a, .int .i64 b, .int .i64 c])).nx = η11.nx + 1 := rfl
   have t12 : ((η11.new (.live false [.int .i64 0, .int .i64 0, .int .i64 0, .int .i64 0])).put η11.nx (.live false [.int .i64 op, .int .i64 a, .int .i64 b, .int .i64 c])).f η11.nx = .live false [.int .i64 op, .int .i64 a, .int .i64 b, .int .i64 c] := by show (if η11.nx = η11.nx then _ else _) = _; rw [if_pos rfl]
   generalize ((η11.new (.live false [.int .i64 0, .int .i64 0, .int .i64 0, .int .i64 0])).put η11.nx (.live false [.int .i64 op, .int .i64 a, .int .i64 b, .int .i64 c])) = η12 at *
   refine thenN_call (hcs ▸ readsD_then U (i := ⟨op, a, b, c⟩) fb0 fun v13 η13 E13 r13 => ?_)
   rw [readsD_F f1] at r13
   have E23 := extT E12 E13
   have g13 := E23.1
   have n13 := E13.1
   have t13 := (E13.2 _ (by omega)).trans t12
   have hbl13 := (E23.2 _ hbln).trans hbl11
   have hbd13 := (E23.2 _ hbd2).trans hbd3
   have lr := rdI_len r13 (readsF_len _)
   have lrn := readsF_len ⟨op, a, b, c⟩
   simp -implicitDefEqProofs (disch := omega) only [go_sem]
   refine wpN_loop (riI η13 (.ptr η.nx 0) (.int .i64 p.code.length) (.slice η9.nx 0 (p.code.length + 1) (.kn (p.code.length + 1))) (.ptr η11.nx 0) v13 pc (readsF ⟨op, a, b, c⟩) d.1) (readsF ⟨op, a, b, c⟩).length ⟨rfl, 0, by omega, by omega, p1, p6, p9, p10, rfl, rfl, rfl, by simp⟩ ?_
   clear p1 p6 p9 p10 hbc hrc
   rintro m2 φ2 η14 ⟨rfl, k, hm2, hk, p1, p6, p9, p10, p11, p12, p13, hall⟩
   by_cases hkl : k < (readsF ⟨op, a, b, c⟩).length
   ·obtain ⟨bq, offq, capq, roq, rowq, v3e, hbq, hbqn, hrq⟩ := r13.at hkl
    have hrs := f2 _ (List.getElem_mem hkl)
    have hg := boolsA_at (l := d.1 ++ d.2) (i := (readsF ⟨op, a, b, c⟩)[k]) (by rw [List.length_append]; omega)
    rw [getD_app _ _ _ (by rw [ld.1]; exact hrs)] at hg
    rw [v3e] at p12 lr
    generalize hrk : (readsF ⟨op, a, b, c⟩)[k] = rk at *
    cases hv : d.1.getD rk false with
    | false =>
     rw [hv] at hg
     have hna : (readsF ⟨op, a, b, c⟩).all (fun n => d.1.getD n false) = false := by
      cases hq : (readsF ⟨op, a, b, c⟩).all (fun n => d.1.getD n false) with
      | false => rfl
      | true => rw [List.all_eq_true] at hq; have := hq _ (List.getElem_mem hkl); rw [hrk, hv] at this; cases this
     have hfol : (if (readsF ⟨op, a, b, c⟩).all (fun n => d.1.getD n false) = true then followF (p.code.drop (pc + 1)) (pc + 1) (goF ⟨op, a, b, c⟩ pc st (doesF ⟨op, a, b, c⟩ d)) else Sum.inl pc) = followF p.code 0 (startF p) := hfol
     rw [hna, if_neg (by decide)] at hfol
     have hl : lastF p = (pc, 4) := by unfold lastF; rw [← hfol]
     simp -implicitDefEqProofs (disch := omega) only [go_sem, hl, p1, p6, p9, p10, p11, p12, p13, lr, hbl13, hrow, hbd13, hbq, hrq, hg, Bool.not_false]
     exact extT F11 E23
    | true =>
     rw [hv] at hg
     simp -implicitDefEqProofs (disch := omega) only [go_sem, p1, p6, p9, p10, p11, p12, p13, lr, hbl13, hrow, hbd13, hbq, hrq, hg, Bool.not_true]
     exact ⟨_, by omega, rfl, k + 1, rfl, by omega, p1, p6, p9, p10, p11, v3e ▸ p12, rfl, all_take hall hkl (by rw [hrk]; exact hv)⟩
   obtain rfl : k = (readsF ⟨op, a, b, c⟩).length := by omega
   rw [List.take_length] at hall
   have hall : (readsF ⟨op, a, b, c⟩).all (fun n => d.1.getD n false) = true := by rw [List.all_eq_true]; exact hall
   have hfol : followF (p.code.drop (pc + 1)) (pc + 1) (goF ⟨op, a, b, c⟩ pc st (doesF ⟨op, a, b, c⟩ d)) = followF p.code 0 (startF p) := by
    have hfol : (if (readsF ⟨op, a, b, c⟩).all (fun n => d.1.getD n false) = true then followF (p.code.drop (pc + 1)) (pc + 1) (goF ⟨op, a, b, c⟩ pc st (doesF ⟨op, a, b, c⟩ d)) else Sum.inl pc) = followF p.code 0 (startF p) := hfol
    rw [hall, if_pos rfl] at hfol
    exact hfol
   have dl : (d.1 ++ d.2).length = p.slots.length + p.outs.length := by rw [List.length_append, ld.1, ld.2]
   obtain ⟨v15, η15, e15, ⟨cb, capb, rfl, c1, c2, c3⟩, E15⟩ := app_bools (η := η14) (cap := capd) hbd13 (by omega) (by omega)
   rw [dl] at e15
   simp -implicitDefEqProofs (disch := omega) only [go_sem, p1, p6, p9, p10, p11, p12, p13, lr, hbl13, hrow, e15]
   have t15 := (E15.2 _ (by omega)).trans t13
   have hbl15 := (E15.2 _ (by omega)).trans hbl13
   have g15 := E15.1
   simp -implicitDefEqProofs (disch := omega) only [go_sem, t15]
   have hm1 : ltN .i64 18446744073709551615 0 = true := ltN_neg (by omega)
   have E16 : ExtB η11.nx η11 (η15.new (.live false [.int .i64 op, .int .i64 a, .int .i64 b, .int .i64 c])) := extN (extT E23 E15)
   have n16 : (η15.new (.live false [.int .i64 op, .int .i64 a, .int .i64 b, .int .i64 c])).nx = η15.nx + 1 := rfl
   have c16 : (η15.new (.live false [.int .i64 op, .int .i64 a, .int .i64 b, .int .i64 c])).f cb = .live false (boolsA (d.1 ++ d.2)) := by show (if cb = η15.nx then _ else _) = _; rw [if_neg (by omega)]; exact c3
   have t16 : (η15.new (.live false [.int .i64 op, .int .i64 a, .int .i64 b, .int .i64 c])).f η11.nx = .live false [.int .i64 op, .int .i64 a, .int .i64 b, .int .i64 c] := by show (if η11.nx = η15.nx then _ else _) = _; rw [if_neg (by omega)]; exact t15
   refine thenN_call (hcs ▸ writes_then U (i := ⟨op, a, b, c⟩) f1 ?_)
   rw [hcs]
   generalize η15.new (.live false [.int .i64 op, .int .i64 a, .int .i64 b, .int .i64 c]) = η16 at *
   have dla := boolsA_len (d.1 ++ d.2)
   clear hall e15 E12 E13 t12 t13 t15 hbd13 lr r13 c3 hbl13 hbl15 hdrop
   by_cases q5 : op = 5
   ·subst q5
    have hw : writesD ⟨5, a, b, c⟩ = 18446744073709551615 := rfl
    have fa := f4 rfl
    have hset : (boolsA (d.1 ++ d.2)).set (p.slots.length + a) (.bool true) = boolsA ((doesF ⟨5, a, b, c⟩ d).1 ++ (doesF ⟨5, a, b, c⟩ d).2) := by rw [boolsA_set]; show _ = boolsA (d.1 ++ d.2.set a true); rw [List.set_append_right _ _ (by omega), ld.1, Nat.add_sub_cancel_left]
    have E17 : ExtB η11.nx η11 (η16.put cb (.live false (boolsA ((doesF ⟨5, a, b, c⟩ d).1 ++ (doesF ⟨5, a, b, c⟩ d).2)))) := extP E16 (by omega)
    have n17 : ((η16.put cb (.live false (boolsA ((doesF ⟨5, a, b, c⟩ d).1 ++ (doesF ⟨5, a, b, c⟩ d).2))))).nx = η16.nx := rfl
    have c17 : ((η16.put cb (.live false (boolsA ((doesF ⟨5, a, b, c⟩ d).1 ++ (doesF ⟨5, a, b, c⟩ d).2))))).f cb = .live false (boolsA ((doesF ⟨5, a, b, c⟩ d).1 ++ (doesF ⟨5, a, b, c⟩ d).2)) := by show (if cb = cb then _ else _) = _; rw [if_pos rfl]
    have t17 : ((η16.put cb (.live false (boolsA ((doesF ⟨5, a, b, c⟩ d).1 ++ (doesF ⟨5, a, b, c⟩ d).2))))).f η11.nx = .live false [.int .i64 5, .int .i64 a, .int .i64 b, .int .i64 c] := by show (if η11.nx = cb then _ else _) = _; rw [if_neg (by omega)]; exact t16
    have x17 : ((η16.put cb (.live false (boolsA ((doesF ⟨5, a, b, c⟩ d).1 ++ (doesF ⟨5, a, b, c⟩ d).2))))).f η.nx = .live false z.cells := (E17.2 _ (by omega)).trans x11
    have D17 := D.up.ext E17
    have b17 := D17.blk
    have ld7 : (doesF ⟨5, a, b, c⟩ d).1.length = p.slots.length ∧ (doesF ⟨5, a, b, c⟩ d).2.length = p.outs.length := by unfold doesF; simp only; (repeat' split) <;> simp [ld.1, ld.2]
    have x16 : η16.f η.nx = .live false z.cells := (E16.2 _ (by omega)).trans x11
    obtain ⟨rv18, hrv18, th18⟩ := bothD U D17 (show pc + 1 ≤ (pc + 1) by omega) (show (pc + 1) ≤ p.code.length by omega) ld7 (cap := capb) c17 (by omega) (by omega)
    simp -implicitDefEqProofs (disch := omega) only [go_sem, p1, p6, p9, p10, p11, hm1, hw, hset, c16, t16, t17, x16, l3, b17, hrv18, Bool.not_true, Bool.not_false, not_le_f, false_implies, implies_true, true_and, and_true]
    refine thenN_call (th18 fun bb18 cc18 η18 E18 hb18 D18 => ?_)
    have b18 := (E18.2 η9.nx D17.bl).trans b17
    have t18 := (E18.2 η11.nx (by omega)).trans t17
    have x18 := (E18.2 η.nx (by omega)).trans x17
    have gg18 := E18.1
    have ll18 := D18.len
    rw [List.length_set] at ll18
    simp -implicitDefEqProofs (disch := omega) only [go_sem, p1, p6, p9, p10, p11, t18, b18, b17, t17, x17, Bool.not_true, Bool.not_false, not_le_f, false_implies, implies_true, true_and, and_true]
    have hgo : goF ⟨5, a, b, c⟩ pc st (doesF ⟨5, a, b, c⟩ d) = setF st (pc + 1) (meetF (st (pc + 1)) (doesF ⟨5, a, b, c⟩ d)) := by unfold goF; simp
    rw [hgo] at hfol
    exact ⟨_, by omega, pc + 1, _, _, rfl, by omega, p1, p6, p9, rfl, (extT F11 (extT E17 E18)).trans (.put (by omega)), hblg, by show (if η.nx = η9.nx then _ else _) = _; rw [if_neg (by omega)]; exact x18, D18, hfol⟩
   by_cases q3 : op = 3
   ·subst q3
    have hw : writesD ⟨3, a, b, c⟩ = 18446744073709551615 := rfl
    have E17 : ExtB η11.nx η11 η16 := E16
    have n17 : (η16).nx = η16.nx := rfl
    have c17 : (η16).f cb = .live false (boolsA ((doesF ⟨3, a, b, c⟩ d).1 ++ (doesF ⟨3, a, b, c⟩ d).2)) := c16
    have t17 : (η16).f η11.nx = .live false [.int .i64 3, .int .i64 a, .int .i64 b, .int .i64 c] := t16
    have x17 : (η16).f η.nx = .live false z.cells := (E17.2 _ (by omega)).trans x11
    have D17 := D.up.ext E17
    have b17 := D17.blk
    have ld7 : (doesF ⟨3, a, b, c⟩ d).1.length = p.slots.length ∧ (doesF ⟨3, a, b, c⟩ d).2.length = p.outs.length := by unfold doesF; simp only; (repeat' split) <;> simp [ld.1, ld.2]
    obtain ⟨rv18, hrv18, th18⟩ := bothD U D17 (show pc + 1 ≤ (pc + 1) by omega) (show (pc + 1) ≤ p.code.length by omega) ld7 (cap := capb) c17 (by omega) (by omega)
    simp -implicitDefEqProofs (disch := omega) only [go_sem, p1, p6, p9, p10, p11, hm1, hw, c16, t16, t17, l3, b17, hrv18, Bool.not_true, Bool.not_false, not_le_f, false_implies, implies_true, true_and, and_true]
    refine thenN_call (th18 fun bb18 cc18 η18 E18 hb18 D18 => ?_)
    have b18 := (E18.2 η9.nx D17.bl).trans b17
    have t18 := (E18.2 η11.nx (by omega)).trans t17
    have x18 := (E18.2 η.nx (by omega)).trans x17
    have gg18 := E18.1
    have ll18 := D18.len
    rw [List.length_set] at ll18
    simp -implicitDefEqProofs (disch := omega) only [go_sem, p1, p6, p9, p10, p11, t18, b18, b17, t17, x17, Bool.not_true, Bool.not_false, not_le_f, false_implies, implies_true, true_and, and_true]
    have hgo : goF ⟨3, a, b, c⟩ pc st (doesF ⟨3, a, b, c⟩ d) = setF st (pc + 1) (meetF (st (pc + 1)) (doesF ⟨3, a, b, c⟩ d)) := by unfold goF; simp
    rw [hgo] at hfol
    exact ⟨_, by omega, pc + 1, _, _, rfl, by omega, p1, p6, p9, rfl, (extT F11 (extT E17 E18)).trans (.put (by omega)), hblg, by show (if η.nx = η9.nx then _ else _) = _; rw [if_neg (by omega)]; exact x18, D18, hfol⟩
   by_cases q19 : op = 19
   ·subst q19
    obtain ⟨f5a, f5b⟩ := f5 (by omega)
    have hw : writesD ⟨19, a, b, c⟩ = 18446744073709551615 := rfl
    have E17 : ExtB η11.nx η11 η16 := E16
    have n17 : (η16).nx = η16.nx := rfl
    have c17 : (η16).f cb = .live false (boolsA ((doesF ⟨19, a, b, c⟩ d).1 ++ (doesF ⟨19, a, b, c⟩ d).2)) := c16
    have t17 : (η16).f η11.nx = .live false [.int .i64 19, .int .i64 a, .int .i64 b, .int .i64 c] := t16
    have x17 : (η16).f η.nx = .live false z.cells := (E17.2 _ (by omega)).trans x11
    have D17 := D.up.ext E17
    have b17 := D17.blk
    have ld7 : (doesF ⟨19, a, b, c⟩ d).1.length = p.slots.length ∧ (doesF ⟨19, a, b, c⟩ d).2.length = p.outs.length := by unfold doesF; simp only; (repeat' split) <;> simp [ld.1, ld.2]
    obtain ⟨rv18, hrv18, th18⟩ := bothD U D17 (show pc + 1 ≤ (pc + 1) by omega) (show (pc + 1) ≤ p.code.length by omega) ld7 (cap := capb) c17 (by omega) (by omega)
    simp -implicitDefEqProofs (disch := omega) only [go_sem, p1, p6, p9, p10, p11, hm1, hw, c16, t16, t17, l3, b17, hrv18, Bool.not_true, Bool.not_false, not_le_f, false_implies, implies_true, true_and, and_true]
    refine thenN_call (th18 fun bb18 cc18 η18 E18 hb18 D18 => ?_)
    have b18 := (E18.2 η9.nx D17.bl).trans b17
    have t18 := (E18.2 η11.nx (by omega)).trans t17
    have x18 := (E18.2 η.nx (by omega)).trans x17
    have gg18 := E18.1
    have ll18 := D18.len
    rw [List.length_set] at ll18
    have n19 : (η18.put η9.nx (.live false (row.set (pc + 1) (.slice bb18 0 (p.slots.length + p.outs.length) cc18)))).nx = η18.nx := rfl
    have c18 := (E18.2 cb (by omega)).trans c17
    have c19 : (η18.put η9.nx (.live false (row.set (pc + 1) (.slice bb18 0 (p.slots.length + p.outs.length) cc18)))).f cb = .live false (boolsA ((doesF ⟨19, a, b, c⟩ d).1 ++ (doesF ⟨19, a, b, c⟩ d).2)) := by show (if cb = η9.nx then _ else _) = _; rw [if_neg (by omega)]; exact c18
    have t19 : (η18.put η9.nx (.live false (row.set (pc + 1) (.slice bb18 0 (p.slots.length + p.outs.length) cc18)))).f η11.nx = .live false ([.int .i64 19, .int .i64 a, .int .i64 b, .int .i64 c]) := by show (if η11.nx = η9.nx then _ else _) = _; rw [if_neg (by omega)]; exact t18
    have x19 : (η18.put η9.nx (.live false (row.set (pc + 1) (.slice bb18 0 (p.slots.length + p.outs.length) cc18)))).f η.nx = .live false (z.cells) := by show (if η.nx = η9.nx then _ else _) = _; rw [if_neg (by omega)]; exact x18
    have D19 := D18
    have b19 := D19.blk
    simp -implicitDefEqProofs (disch := omega) only [go_sem, p1, p6, p9, p10, p11, t18, b18, b17, t17, x17, Bool.not_true, Bool.not_false, not_le_f, false_implies, implies_true, true_and, and_true]
    have E19 : ExtB η.nx η (η18.put η9.nx (.live false (row.set (pc + 1) (.slice bb18 0 (p.slots.length + p.outs.length) cc18)))) := (extT F11 (extT E17 E18)).trans (.put (by omega))
    generalize η18.put η9.nx (.live false (row.set (pc + 1) (.slice bb18 0 (p.slots.length + p.outs.length) cc18))) = η19 at *
    generalize row.set (pc + 1) (.slice bb18 0 (p.slots.length + p.outs.length) cc18) = row2 at *
    obtain ⟨rv20, hrv20, th20⟩ := bothD U D19 (show pc + 1 ≤ a by omega) (show a ≤ p.code.length by omega) ld7 (cap := capb) c19 (by omega) (by omega)
    simp -implicitDefEqProofs (disch := omega) only [go_sem, p1, p6, p9, p10, p11, hm1, hw, b19, hrv20, Bool.not_true, Bool.not_false, not_le_f, false_implies, implies_true, true_and, and_true]
    refine dE_call (th20 fun bb20 cc20 η20 E20 hb20 D20 => ?_)
    have b20 := (E20.2 η9.nx D19.bl).trans b19
    have t20 := (E20.2 η11.nx (by omega)).trans t19
    have x20 := (E20.2 η.nx (by omega)).trans x19
    have gg20 := E20.1
    have ll20 := D20.len
    rw [List.length_set] at ll20
    simp -implicitDefEqProofs (disch := omega) only [go_sem, p1, p6, p9, p10, p11, t20, b20, b19, t19, x19, Bool.not_true, Bool.not_false, not_le_f, false_implies, implies_true, true_and, and_true]
    rw [go_order] at hfol
    exact ⟨_, by omega, pc + 1, _, _, rfl, by omega, p1, p6, p9, rfl, (extT E19 E20).trans (.put (by omega)), hblg, by show (if η.nx = η9.nx then _ else _) = _; rw [if_neg (by omega)]; exact x20, D20, hfol⟩
   by_cases q20 : op = 20
   ·subst q20
    obtain ⟨f5a, f5b⟩ := f5 (by omega)
    have hw : writesD ⟨20, a, b, c⟩ = 18446744073709551615 := rfl
    have E17 : ExtB η11.nx η11 η16 := E16
    have n17 : (η16).nx = η16.nx := rfl
    have c17 : (η16).f cb = .live false (boolsA ((doesF ⟨20, a, b, c⟩ d).1 ++ (doesF ⟨20, a, b, c⟩ d).2)) := c16
    have t17 : (η16).f η11.nx = .live false [.int .i64 20, .int .i64 a, .int .i64 b, .int .i64 c] := t16
    have x17 : (η16).f η.nx = .live false z.cells := (E17.2 _ (by omega)).trans x11
    have D17 := D.up.ext E17
    have b17 := D17.blk
    have ld7 : (doesF ⟨20, a, b, c⟩ d).1.length = p.slots.length ∧ (doesF ⟨20, a, b, c⟩ d).2.length = p.outs.length := by unfold doesF; simp only; (repeat' split) <;> simp [ld.1, ld.2]
    obtain ⟨rv18, hrv18, th18⟩ := bothD U D17 (show pc + 1 ≤ a by omega) (show a ≤ p.code.length by omega) ld7 (cap := capb) c17 (by omega) (by omega)
    simp -implicitDefEqProofs (disch := omega) only [go_sem, p1, p6, p9, p10, p11, hm1, hw, c16, t16, t17, l3, b17, hrv18, Bool.not_true, Bool.not_false, not_le_f, false_implies, implies_true, true_and, and_true]
    refine dE_call (th18 fun bb18 cc18 η18 E18 hb18 D18 => ?_)
    have b18 := (E18.2 η9.nx D17.bl).trans b17
    have t18 := (E18.2 η11.nx (by omega)).trans t17
    have x18 := (E18.2 η.nx (by omega)).trans x17
    have gg18 := E18.1
    have ll18 := D18.len
    rw [List.length_set] at ll18
    simp -implicitDefEqProofs (disch := omega) only [go_sem, p1, p6, p9, p10, p11, t18, b18, b17, t17, x17, Bool.not_true, Bool.not_false, not_le_f, false_implies, implies_true, true_and, and_true]
    have hgo : goF ⟨20, a, b, c⟩ pc st (doesF ⟨20, a, b, c⟩ d) = setF st a (meetF (st a) (doesF ⟨20, a, b, c⟩ d)) := rfl
    rw [hgo] at hfol
    exact ⟨_, by omega, pc + 1, _, _, rfl, by omega, p1, p6, p9, rfl, (extT F11 (extT E17 E18)).trans (.put (by omega)), hblg, by show (if η.nx = η9.nx then _ else _) = _; rw [if_neg (by omega)]; exact x18, D18, hfol⟩
   have hw : writesD ⟨op, a, b, c⟩ = a := by unfold writesD; dsimp only; rw [if_neg (by omega)]
   have d5 : decide (op = 5) = false := decide_eq_false q5
   have d20 : decide (op = 20) = false := decide_eq_false q20
   have d19 : decide (op = 19) = false := decide_eq_false q19
   have fa := f3 q3 q5 (by omega)
   have hdo : doesF ⟨op, a, b, c⟩ d = (d.1.set a true, d.2) := by unfold doesF; dsimp only; rw [if_neg q5, if_neg (by omega)]
   have hset : (boolsA (d.1 ++ d.2)).set a (.bool true) = boolsA ((doesF ⟨op, a, b, c⟩ d).1 ++ (doesF ⟨op, a, b, c⟩ d).2) := by rw [boolsA_set, hdo, List.set_append_left _ _ (by omega)]
   have E17 : ExtB η11.nx η11 (η16.put cb (.live false (boolsA ((doesF ⟨op, a, b, c⟩ d).1 ++ (doesF ⟨op, a, b, c⟩ d).2)))) := extP E16 (by omega)
   have n17 : ((η16.put cb (.live false (boolsA ((doesF ⟨op, a, b, c⟩ d).1 ++ (doesF ⟨op, a, b, c⟩ d).2))))).nx = η16.nx := rfl
   have c17 : ((η16.put cb (.live false (boolsA ((doesF ⟨op, a, b, c⟩ d).1 ++ (doesF ⟨op, a, b, c⟩ d).2))))).f cb = .live false (boolsA ((doesF ⟨op, a, b, c⟩ d).1 ++ (doesF ⟨op, a, b, c⟩ d).2)) := by show (if cb = cb then _ else _) = _; rw [if_pos rfl]
   have t17 : ((η16.put cb (.live false (boolsA ((doesF ⟨op, a, b, c⟩ d).1 ++ (doesF ⟨op, a, b, c⟩ d).2))))).f η11.nx = .live false [.int .i64 op, .int .i64 a, .int .i64 b, .int .i64 c] := by show (if η11.nx = cb then _ else _) = _; rw [if_neg (by omega)]; exact t16
   have x17 : ((η16.put cb (.live false (boolsA ((doesF ⟨op, a, b, c⟩ d).1 ++ (doesF ⟨op, a, b, c⟩ d).2))))).f η.nx = .live false z.cells := (E17.2 _ (by omega)).trans x11
   have D17 := D.up.ext E17
   have b17 := D17.blk
   have ld7 : (doesF ⟨op, a, b, c⟩ d).1.length = p.slots.length ∧ (doesF ⟨op, a, b, c⟩ d).2.length = p.outs.length := by unfold doesF; simp only; (repeat' split) <;> simp [ld.1, ld.2]
   obtain ⟨rv18, hrv18, th18⟩ := bothD U D17 (show pc + 1 ≤ (pc + 1) by omega) (show (pc + 1) ≤ p.code.length by omega) ld7 (cap := capb) c17 (by omega) (by omega)
   simp -implicitDefEqProofs (disch := omega) only [go_sem, p1, p6, p9, p10, p11, hm1, hw, hset, c16, t16, t17, d5, d20, d19, l3, b17, hrv18, Bool.not_true, Bool.not_false, not_le_f, false_implies, implies_true, true_and, and_true]
   refine thenN_call (th18 fun bb18 cc18 η18 E18 hb18 D18 => ?_)
   have b18 := (E18.2 η9.nx D17.bl).trans b17
   have t18 := (E18.2 η11.nx (by omega)).trans t17
   have x18 := (E18.2 η.nx (by omega)).trans x17
   have gg18 := E18.1
   have ll18 := D18.len
   rw [List.length_set] at ll18
   simp -implicitDefEqProofs (disch := omega) only [go_sem, p1, p6, p9, p10, p11, t18, b18, b17, t17, x17, d5, d20, d19, Bool.not_true, Bool.not_false, not_le_f, false_implies, implies_true, true_and, and_true]
   have hgo : goF ⟨op, a, b, c⟩ pc st (doesF ⟨op, a, b, c⟩ d) = setF st (pc + 1) (meetF (st (pc + 1)) (doesF ⟨op, a, b, c⟩ d)) := by unfold goF; simp [q19, q20]
   rw [hgo] at hfol
   exact ⟨_, by omega, pc + 1, _, _, rfl, by omega, p1, p6, p9, rfl, (extT F11 (extT E17 E18)).trans (.put (by omega)), hblg, by show (if η.nx = η9.nx then _ else _) = _; rw [if_neg (by omega)]; exact x18, D18, hfol⟩
 obtain rfl : pc = p.code.length := by omega
 rw [List.drop_length, followF] at hfol
 simp -implicitDefEqProofs (disch := omega) only [go_sem, p1, p6, p9, p10]
 cases hst : st p.code.length with
 | none =>
  have hrow : row[p.code.length]? = some .nilslice := by have := D.at_ _ (Nat.le_refl _) hpc; rw [hst] at this; exact this
  rw [hst] at hfol
  have hl : lastF p = (0, 0) := by unfold lastF; rw [← hfol]
  refine loop_n 1 ?_
  by_cases h0 : p.outs.length = 0
  ·simp -implicitDefEqProofs (disch := omega) only [go_sem, p1, p6, p9, hl, x11, l2, hbl11, hrow, Bool.not_true, Bool.not_false]
   exact F11
  ·simp -implicitDefEqProofs (disch := omega) only [go_sem, p1, p6, p9, hl, x11, l2, hbl11, hrow, Bool.not_true, Bool.not_false]
   exact F11
 | some d =>
  obtain ⟨bd, capd, hrow, hbd1, hbd2, hbd3⟩ : PlD η11 η9.nx (p.slots.length + p.outs.length) row p.code.length (some d) := by have := D.at_ _ (Nat.le_refl _) hpc; rw [hst] at this; exact this
  have ld := D.lens _ d (Nat.le_refl _) hst
  rw [hst] at hfol
  have hl : lastF p = if d.2.all id = true then (0, 0) else (p.code.length, 5) := by unfold lastF; rw [← hfol]
  refine wpN_loop (roI η11 (.ptr η.nx 0) (.int .i64 p.code.length) (.slice η9.nx 0 (p.code.length + 1) (.kn (p.code.length + 1))) p.outs.length (fun j => d.2.getD j false)) p.outs.length ⟨rfl, 0, by omega, by omega, p1, p6, p9, rfl, fun j hj => absurd hj (Nat.not_lt_zero j)⟩ ?_
  clear p1 p6 p9 p10
  rintro m2 φ2 η14 ⟨rfl, k, hm2, hk, p1, p6, p9, p16, hall⟩
  by_cases hkl : k < p.outs.length
  ·have hg := boolsA_at (l := d.1 ++ d.2) (i := p.slots.length + k) (by rw [List.length_append]; omega)
   rw [← ld.1, getD_app2, ld.1] at hg
   cases hv : d.2.getD k false with
   | true =>
    rw [hv] at hg
    simp -implicitDefEqProofs (disch := omega) only [go_sem, p1, p6, p9, p16, x11, l2, l3, hbl11, hrow, hbd3, hg, Bool.not_true, Bool.not_false]
    refine ⟨_, by omega, rfl, k + 1, rfl, by omega, p1, p6, p9, rfl, fun j hj => ?_⟩
    by_cases e : j = k
    ·subst e; exact hv
    ·exact hall j (by omega)
   | false =>
    rw [hv] at hg
    have hna : ¬ d.2.all id = true := fun hq => by
     rw [List.all_eq_true] at hq
     have := hq _ (List.getElem_mem (show k < d.2.length by omega))
     rw [List.getD_eq_getElem?_getD, List.getElem?_eq_getElem (by omega)] at hv
     simp at hv this
     rw [hv] at this; cases this
    rw [if_neg hna] at hl
    simp -implicitDefEqProofs (disch := omega) only [go_sem, hl, p1, p6, p9, p16, x11, l2, l3, hbl11, hrow, hbd3, hg, Bool.not_true, Bool.not_false]
    exact F11
  ·obtain rfl : k = p.outs.length := by omega
   rw [if_pos (all_ids (by rw [ld.2]; exact hall))] at hl
   simp -implicitDefEqProofs (disch := omega) only [go_sem, hl, p1, p6, p9, p16, x11, l2, l3, hbl11, hrow, hbd3, Bool.not_true, Bool.not_false]
   exact F11
end Go.Proofs.Ytjljolnhmmbkoaa
namespace Go.Proofs.Ytjljolnhmmbkoaa
open Go.Eng Go.Plain
set_option autoImplicit false
set_option maxRecDepth 100000
variable {nat : ∀ [Deep], Nats}
theorem refcheck_then (U : Usual nat) {η : HN} (z : PV) (p : PD) {Q : AV → HN → Prop} (hp : IsP η z p) (hf : Fine p) (h : ∀ η', ExtB η.nx η η' → Q (.tup [.int .i64 (checkF p).1, .int .i64 (checkF p).2]) η') : ∃ v η', CallN Try.prog nat 19 [.agg z.cells] η v η' ∧ Q v η' := by
 obtain ⟨v, η', k, rfl, E⟩ := refcheck_spec U η z p hp hf
 exact ⟨_, η', k, h η' E⟩
end Go.Proofs.Ytjljolnhmmbkoaa
