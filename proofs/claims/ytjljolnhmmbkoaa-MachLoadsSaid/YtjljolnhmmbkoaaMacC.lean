/- What is proved: an instruction of a machine. any instruction of a machine. what a step keeps. what a program that may be run has; a step, instruction by instruction. Conditions: as each theorem says. -/
import Derived.Test.YtjljolnhmmbkoaaMacB
set_option linter.unusedVariables false
set_option linter.unusedSimpArgs false
set_option linter.unusedSectionVars false
namespace Go.Proofs.Ytjljolnhmmbkoaa
open Go.Eng Go.Plain
set_option autoImplicit false
set_option maxRecDepth 100000
variable {nat : ∀ [Deep], Nats}
theorem ops_there {p : PD} {pc op a b c : Nat} (hop : 8 ≤ op ∧ op ≤ 18) (ht : thereF p pc ⟨op, a, b, c⟩ = true) : (has p.slots a && (has p.slots b && has p.slots c)) = true := by
 unfold thereF at ht
 dsimp only at ht
 rw [if_neg (by omega), if_neg (by omega), if_neg (by omega), if_neg (by omega), if_neg (by omega), if_neg (by omega), if_neg (by omega), if_neg (by omega)] at ht
 exact (and_lt ht).2
theorem ops_do {p : PD} {inn : List Nat} {s : Sm} {op a b c : Nat} (hop : 8 ≤ op ∧ op ≤ 18) : doI p inn ⟨op, a, b, c⟩ s = { s with slots := s.slots.set a (opF op (s.slots.getD b 0) (s.slots.getD c 0)) } := by
 unfold doI
 dsimp only
 rw [if_neg (by omega), if_neg (by omega), if_neg (by omega), if_neg (by omega), if_neg (by omega), if_neg (by omega), if_neg (by omega), if_neg (by omega), if_neg (by omega)]
theorem ops_next {s : Sm} {pc op a b c : Nat} (hop : 8 ≤ op ∧ op ≤ 18) : nextI ⟨op, a, b, c⟩ pc s = pc + 1 := by
 unfold nextI
 dsimp only
 rw [if_neg (by omega), if_neg (by omega)]
set_option maxHeartbeats 2000000 in
theorem do_ops (U : Usual nat) {η : HN} {T : Nat → Nat} {sp pc op a b c : Nat} {yi ys yo ym : AV} {s : Sm} {z : PV} {p : PD} {inn : List Nat} {Q : AV → HN → Prop} (hop : 8 ≤ op ∧ op ≤ 18) (hp : IsP η z p) (hf : Fine p) (h : StepAt η T sp yi s ys yo ym) (hi : RdI .i64 η yi inn) (hpc : pc < p.code.length) (hi0 : p.code[pc] = ⟨op, a, b, c⟩) (ht : thereF p pc ⟨op, a, b, c⟩ = true)
  (hS : s.slots.length = p.slots.length ∧ s.outs.length = p.outs.length ∧ s.mems.length = p.mems.length ∧ inn.length = p.ins.length) (hlt : ∀ n ∈ s.slots, n < 18446744073709551616) (hQ : ∀ η', StepAt η' T sp yi (doI p inn ⟨op, a, b, c⟩ s) ys yo ym → KpS T η η' → Q (.int .i64 (nextI ⟨op, a, b, c⟩ pc s)) η') : ∃ v η', CallN Try.prog nat 53 [.ptr sp 0, .agg z.cells, .int .i64 pc] η v η' ∧ Q v η' := by
 refine call_of (PT := pl53) Try.func53 rfl (U 53 (by decide)) ok53 rfl ?_
 obtain ⟨hS, hO, hM, hI⟩ := hS
 obtain ⟨bc, offc, capc, roc, rowc, z6e, hbc, hbcn, hlc, hrc, getlt, g2, g3, g4, b1, b2, b3, b4, b5, b6⟩ := ins_facts hp hf hpc hi0 hlt
 have hrc : _ = ([.int .i64 op, .int .i64 a, .int .i64 b, .int .i64 c] : List AV) := hrc
 have hsp := h.cells
 have hspn := h.tag.2
 have E : ExtB η.nx η (((η.new (.live false z.cells)).new (.live false [.int .i64 0, .int .i64 0, .int .i64 0, .int .i64 0])).put (η.nx + 1) (.live false [.int .i64 op, .int .i64 a, .int .i64 b, .int .i64 c])) := extP (extN (extN (.refl _ _)))
 have ht := ops_there hop ht
 obtain ⟨t1, ht⟩ := and_lt ht
 obtain ⟨t2, t3⟩ := and_lt ht
 have u1 := has_lt t1
 have u2 := has_lt t2
 have u3 := has_lt t3
 obtain ⟨bs, caps, rfl, hsn, hst, hsb⟩ := h.slots.at (i := a) (by omega)
 have g1 := i64s_at (l := s.slots) (i := b) (by omega)
 have g5 := i64s_at (l := s.slots) (i := c) (by omega)
 simp -implicitDefEqProofs (disch := omega) only [go_sem, z6e, hbc, hrc, hsp, hsb, g1, g5, not_le_f, false_implies, implies_true, true_and, and_true]
 refine dE_call ⟨_, _, op_call U _ op _ _ hop (getlt b) (getlt c), ?_⟩
 simp -implicitDefEqProofs (disch := omega) only [go_sem, z6e, hbc, hrc, hsp, hsb, g1, g5, not_le_f, false_implies, implies_true, true_and, and_true]
 rw [i64s_set]
 obtain ⟨q1, q2⟩ := h.slot E rfl hst hsn a (opF op (s.slots.getD b 0) (s.slots.getD c 0))
 rw [ops_do hop, ops_next hop] at hQ
 exact hQ _ q1 q2
end Go.Proofs.Ytjljolnhmmbkoaa
namespace Go.Proofs.Ytjljolnhmmbkoaa
open Go.Eng Go.Plain
set_option autoImplicit false
set_option maxRecDepth 100000
variable {nat : ∀ [Deep], Nats}
theorem do_then (U : Usual nat) {η : HN} {T : Nat → Nat} {sp pc : Nat} {i : Ins} {yi ys yo ym : AV} {s : Sm} {z : PV} {p : PD} {inn : List Nat} {Q : AV → HN → Prop} (hp : IsP η z p) (hf : Fine p) (h : StepAt η T sp yi s ys yo ym) (hi : RdI .i64 η yi inn) (hpc : pc < p.code.length) (hi0 : p.code[pc] = i) (ht : thereF p pc i = true)
  (hS : s.slots.length = p.slots.length ∧ s.outs.length = p.outs.length ∧ s.mems.length = p.mems.length ∧ inn.length = p.ins.length) (hlt : ∀ n ∈ s.slots, n < 18446744073709551616) (hQ : ∀ η', StepAt η' T sp yi (doI p inn i s) ys yo ym → KpS T η η' → Q (.int .i64 (nextI i pc s)) η') : ∃ v η', CallN Try.prog nat 53 [.ptr sp 0, .agg z.cells, .int .i64 pc] η v η' ∧ Q v η' := by
 have hop := (there_facts ht).1
 obtain ⟨op, a, b, c⟩ := i
 dsimp only at hop
 by_cases q0 : op = 0
 ·subst q0; exact do_0 U hp hf h hi hpc hi0 ht hS hlt hQ
 by_cases q1 : op = 1
 ·subst q1; exact do_1 U hp hf h hi hpc hi0 ht hS hlt hQ
 by_cases q2 : op = 2
 ·subst q2; exact do_2 U hp hf h hi hpc hi0 ht hS hlt hQ
 by_cases q3 : op = 3
 ·subst q3; exact do_3 U hp hf h hi hpc hi0 ht hS hlt hQ
 by_cases q4 : op = 4
 ·subst q4; exact do_4 U hp hf h hi hpc hi0 ht hS hlt hQ
 by_cases q5 : op = 5
 ·subst q5; exact do_5 U hp hf h hi hpc hi0 ht hS hlt hQ
 by_cases q6 : op = 6
 ·subst q6; exact do_6 U hp hf h hi hpc hi0 ht hS hlt hQ
 by_cases q7 : op = 7
 ·subst q7; exact do_7 U hp hf h hi hpc hi0 ht hS hlt hQ
 by_cases q8 : 8 ≤ op ∧ op ≤ 18
 ·exact do_ops U q8 hp hf h hi hpc hi0 ht hS hlt hQ
 by_cases q19 : op = 19
 ·subst q19; exact do_19 U hp hf h hi hpc hi0 ht hS hlt hQ
 by_cases q20 : op = 20
 ·subst q20; exact do_20 U hp hf h hi hpc hi0 ht hS hlt hQ
 omega
end Go.Proofs.Ytjljolnhmmbkoaa
namespace Go.Proofs.Ytjljolnhmmbkoaa
open Go.Eng Go.Plain
set_option autoImplicit false
structure SmOk (p : PD) (inn : List Nat) (s : Sm) : Prop where
 slots : s.slots.length = p.slots.length ∧ ∀ n ∈ s.slots, n < 18446744073709551616
 outs : s.outs.length = p.outs.length ∧ ∀ n ∈ s.outs, n < 18446744073709551616
 mems : s.mems.length = p.mems.length ∧ ∀ n ∈ s.mems, n < 18446744073709551616
 inn : inn.length = p.ins.length ∧ ∀ n ∈ inn, n < 18446744073709551616
theorem set_ok {l : List Nat} {n i x : Nat} (h : l.length = n ∧ ∀ y ∈ l, y < 18446744073709551616) (hx : x < 18446744073709551616) : (l.set i x).length = n ∧ ∀ y ∈ l.set i x, y < 18446744073709551616 :=
 ⟨by rw [List.length_set]; exact h.1, fun y hy => by rcases List.mem_or_eq_of_mem_set hy with h1 | rfl; exact h.2 y h1; exact hx⟩
theorem getD_ok {l : List Nat} (h : ∀ y ∈ l, y < 18446744073709551616) (i : Nat) : l.getD i 0 < 18446744073709551616 := by
 rw [List.getD_eq_getElem?_getD]
 cases hx : l[i]? with
 | none => show 0 < _; omega
 | some x => exact h x (List.mem_of_getElem? hx)
theorem doI_ok {p : PD} {inn : List Nat} {i : Ins} {s : Sm} (hf : Fine p) (h : SmOk p inn s) : SmOk p inn (doI p inn i s) := by
 have g := getD_ok h.slots.2
 unfold doI
 split
 ·exact ⟨set_ok h.slots (getD_ok hf.consts.2 _), h.outs, h.mems, h.inn⟩
 split
 ·exact ⟨set_ok h.slots (g _), h.outs, h.mems, h.inn⟩
 split
 ·exact ⟨set_ok h.slots (getD_ok h.mems.2 _), h.outs, h.mems, h.inn⟩
 split
 ·exact ⟨h.slots, h.outs, set_ok h.mems (g _), h.inn⟩
 split
 ·exact ⟨set_ok h.slots (getD_ok h.inn.2 _), h.outs, h.mems, h.inn⟩
 split
 ·exact ⟨h.slots, set_ok h.outs (g _), h.mems, h.inn⟩
 split
 ·exact ⟨set_ok h.slots (Nat.mod_lt _ (by omega)), h.outs, h.mems, h.inn⟩
 split
 ·exact ⟨set_ok h.slots (Nat.mod_lt _ (by omega)), h.outs, h.mems, h.inn⟩
 split
 ·exact h
 ·exact ⟨set_ok h.slots (opF_lt (g _) (g _)), h.outs, h.mems, h.inn⟩
theorem nextI_gt {p : PD} {pc : Nat} {i : Ins} {s : Sm} (h : thereF p pc i = true) (hpc : pc < p.code.length) : pc < nextI i pc s ∧ nextI i pc s ≤ p.code.length := by
 obtain ⟨_, _, _, _, h5⟩ := there_facts h
 unfold nextI
 split
 ·have := h5 (by omega)
  split <;> omega
 ·split
  ·have := h5 (by omega); omega
  ·omega
end Go.Proofs.Ytjljolnhmmbkoaa
namespace Go.Proofs.Ytjljolnhmmbkoaa
open Go.Eng Go.Plain
set_option autoImplicit false
theorem check_parts {p : PD} (h : (checkF p).2 = 0) : partsF p = true := by
 unfold checkF at h
 cases hp : partsF p with
 | true => rfl
 | false => rw [hp] at h; exact absurd h (show ¬ (1 = 0) by decide)
theorem check_first {p : PD} (h : (checkF p).2 = 0) : firstF (thereF p) p.code 0 = none := by
 have hp := check_parts h
 unfold checkF at h
 rw [hp, if_pos rfl] at h
 cases hf : firstF (thereF p) p.code 0 with
 | none => rfl
 | some x => rw [hf] at h; exact absurd h (show ¬ (2 = 0) by decide)
theorem check_there {p : PD} (h : (checkF p).2 = 0) (pc : Nat) (hpc : pc < p.code.length) : thereF p pc p.code[pc] = true := by
 have := first_none (check_first h) pc hpc
 rwa [Nat.zero_add] at this
structure LensOk (p : PD) : Prop where
 ins : p.ins.length ≤ 64
 outs : p.outs.length ≤ 64
 slots : p.slots.length ≤ 1024
 mems : p.mems.length ≤ 1024
 consts : p.consts.length ≤ 1024
 code : p.code.length ≤ 8192
theorem check_lens {p : PD} (h : (checkF p).2 = 0) : LensOk p := by
 have hp := check_parts h
 unfold partsF at hp
 simp only [Bool.and_eq_true, decide_eq_true_eq] at hp
 obtain ⟨h1, h2, h3, _, _, _, _, h4, h5, h6⟩ := hp
 exact ⟨h4, h5, h1, h2, h3, h6⟩
theorem runF_end {p : PD} {inn : List Nat} {pc : Nat} {s : Sm} (h : p.code.length ≤ pc) : ∀ f, runF p inn f pc s = s
 | 0 => rfl
 | f + 1 => by rw [runF, List.getElem?_eq_none h]
theorem runF_any {p : PD} (hc : (checkF p).2 = 0) {inn : List Nat} : ∀ f g pc s, p.code.length - pc ≤ f → p.code.length - pc ≤ g → runF p inn f pc s = runF p inn g pc s
 | 0, g, pc, s, h1, _ => by rw [runF_end (by omega) g]; rfl
 | f + 1, 0, pc, s, _, h2 => by rw [runF_end (by omega) (f + 1)]; rfl
 | f + 1, g + 1, pc, s, h1, h2 => by
  by_cases hpc : pc < p.code.length
  ·rw [runF, runF, List.getElem?_eq_getElem hpc]
   have := nextI_gt (s := s) (check_there hc pc hpc) hpc
   exact runF_any hc f g _ _ (by omega) (by omega)
  ·rw [runF_end (by omega), runF_end (by omega)]
noncomputable def goM (p : PD) (inn : List Nat) (pc : Nat) (s : Sm) : Sm := runF p inn (p.code.length - pc) pc s
theorem goM_end {p : PD} {inn : List Nat} {pc : Nat} {s : Sm} (h : p.code.length ≤ pc) : goM p inn pc s = s := runF_end h _
theorem goM_next {p : PD} (hc : (checkF p).2 = 0) {inn : List Nat} {pc : Nat} {s : Sm} (hpc : pc < p.code.length) : goM p inn (nextI p.code[pc] pc s) (doI p inn p.code[pc] s) = goM p inn pc s := by
 unfold goM
 have hn := nextI_gt (s := s) (check_there hc pc hpc) hpc
 obtain ⟨k, hk⟩ : ∃ k, p.code.length - pc = k + 1 := ⟨p.code.length - pc - 1, by omega⟩
 rw [hk, runF, List.getElem?_eq_getElem hpc]
 exact runF_any hc _ _ _ _ (Nat.le_refl _) (by omega)
def zeroS (p : PD) (ms : List Nat) : Sm := ⟨List.replicate p.slots.length 0, List.replicate p.outs.length 0, ms⟩
theorem goM_0 {p : PD} {inn ms : List Nat} : goM p inn 0 (zeroS p ms) = stepM p ms inn := rfl
theorem goM_ok {p : PD} (hf : Fine p) {inn : List Nat} : ∀ f pc s, SmOk p inn s → SmOk p inn (runF p inn f pc s)
 | 0, _, _, h => h
 | f + 1, pc, s, h => by
  rw [runF]
  cases p.code[pc]? with
  | none => exact h
  | some i => exact goM_ok hf f _ _ (doI_ok hf h)
theorem zero_ok {p : PD} {inn ms : List Nat} (hm : ms.length = p.mems.length ∧ ∀ n ∈ ms, n < 18446744073709551616) (hi : inn.length = p.ins.length ∧ ∀ n ∈ inn, n < 18446744073709551616) : SmOk p inn (zeroS p ms) :=
 ⟨⟨List.length_replicate, fun n hn => by have := (List.mem_replicate.1 hn).2; omega⟩, ⟨List.length_replicate, fun n hn => by have := (List.mem_replicate.1 hn).2; omega⟩, hm, hi⟩
theorem stepM_ok {p : PD} (hf : Fine p) {inn ms : List Nat} (hm : ms.length = p.mems.length ∧ ∀ n ∈ ms, n < 18446744073709551616) (hi : inn.length = p.ins.length ∧ ∀ n ∈ inn, n < 18446744073709551616) : SmOk p inn (stepM p ms inn) := goM_ok hf _ _ _ (zero_ok hm hi)
end Go.Proofs.Ytjljolnhmmbkoaa
