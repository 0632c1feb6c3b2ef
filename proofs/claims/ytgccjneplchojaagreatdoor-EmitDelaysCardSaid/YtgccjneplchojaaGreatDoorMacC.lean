/- What is proved: a step of the document's own machine. Conditions: as each theorem says. -/
import Derived.Test.YtgccjneplchojaaGreatDoorMacB
set_option linter.unusedVariables false
set_option linter.unusedSimpArgs false
set_option linter.unusedSectionVars false
namespace Go.Proofs.YtgccjneplchojaaGreatDoor
open Go.Eng Go.Plain
set_option autoImplicit false
set_option maxRecDepth 100000
variable {nat : ∀ [Deep], Nats}
set_option maxHeartbeats 2000000 in
theorem rf_ops (U : Usual nat) {bd : Code} (hbd : findL 30 (fnB Tryz.f25) = some bd) {K : Kont} {η : HN} {T : Nat → Nat} {φ : FN} {mp pc ticks op a b c : Nat} {yi ys yo ym : AV} {s : Sm} {z : PV} {p : PD} {inn : List Nat} (hop : 8 ≤ op ∧ op ≤ 18) (I : RfIn η T φ mp pc ticks ⟨op, a, b, c⟩ yi ys yo ym s z p inn) (hr : refF op (s.slots.getD b 0) (s.slots.getD c 0) = opF op (s.slots.getD b 0) (s.slots.getD c 0)) (hQ : RfOut K η T φ pc ⟨op, a, b, c⟩ ys yo ym s p inn) : wpN Tryz.prog (CallN Tryz.prog nat) pl25 bd K φ η := by
  obtain rfl : bd = _ := Option.some.inj (hbd.symm.trans rfl)
  obtain ⟨hp, hf, h, hi, hpc, hi0, ht, hS, hlt, hm, hmn, p0, p1, p6, p7, p8⟩ := I
  obtain ⟨hS, hO, hM, hI⟩ := hS
  obtain ⟨bc, offc, capc, roc, rowc, z6e, hbc, hbcn, hlc, hrc, getlt, g2, g3, g4, b1, b2, b3, b4, b5, b6⟩ := ins_facts hp hf hpc hi0 hlt
  have l6 := rdC_len9 hp.code (by omega)
  have hrc : _ = ([.int .i64 op, .int .i64 a, .int .i64 b, .int .i64 c] : List AV) := hrc
  rw [z6e] at hm l6
  have E : ExtB η.nx η ((η.new (.live false [.int .i64 0, .int .i64 0, .int .i64 0, .int .i64 0])).put η.nx (.live false [.int .i64 op, .int .i64 a, .int .i64 b, .int .i64 c])) := extP (extN (.refl _ _))
  have ht := ops_there hop ht
  obtain ⟨t1, ht⟩ := and_lt ht
  obtain ⟨t2, t3⟩ := and_lt ht
  have u1 := has_lt t1
  have u2 := has_lt t2
  have u3 := has_lt t3
  obtain ⟨bs, caps, rfl, hsn, hst, hsb⟩ := h.slots.at (i := a) (by omega)
  have g1 := i64s_at (l := s.slots) (i := b) (by omega)
  have g5 := i64s_at (l := s.slots) (i := c) (by omega)
  simp -implicitDefEqProofs (disch := omega) only [go_sem, p0, p1, p6, p7, p8, l6, hm, hbc, hrc, hsb, g1, g5, not_le_f, false_implies, implies_true, true_and, and_true]
  refine dE_call (ops62_then U (by omega) fun η3 E3 => ?_)
  have g3' := E3.1
  simp only [at_nx] at g3'
  have hsb3 : η3.f bs = _ := (E3.2 bs (by simp only [at_nx]; omega)).trans (by simp -implicitDefEqProofs (disch := omega) only [go_sem]; exact hsb)
  have hl3 : η3.f η.nx = .live false [.int .i64 op, .int .i64 a, .int .i64 b, .int .i64 c] := (E3.2 η.nx (by simp only [at_nx]; omega)).trans (by simp -implicitDefEqProofs (disch := omega) only [go_sem])
  simp -implicitDefEqProofs (disch := omega) only [go_sem, p0, p1, p6, p7, p8, l6, hm, hbc, hrc, hsb, g1, g5, hsb3, hl3, not_le_f, false_implies, implies_true, true_and, and_true]
  refine dE_call ⟨_, _, refop_call U (op := op) hop (getlt b) (getlt c) (RdR.blk [[.int .i64 (s.slots.getD b 0)], [.int .i64 (s.slots.getD c 0)]] (ro := false) ?_ ?_ (by simp)), ?_⟩
  · simp -implicitDefEqProofs (disch := omega) only [go_sem]; rfl
  · simp only [go_sem]; omega
  rw [hr]
  simp -implicitDefEqProofs (disch := omega) only [go_sem, p0, p1, p6, p7, p8, l6, hm, hbc, hrc, hsb, g1, g5, hsb3, hl3, not_le_f, false_implies, implies_true, true_and, and_true]
  have key : ∀ (H : HN) (φ' : FN), ExtB η.nx η H → φ' 0 = φ 0 → φ' 1 = φ 1 → φ' 6 = φ 6 → φ' 7 = φ 7 → φ' 8 = .int .i64 (pc + 1) → K .normal φ' (H.put bs (.live false (i64s (s.slots.set a (opF op (s.slots.getD b 0) (s.slots.getD c 0)))))) := fun H φ' E' z0 z1 z6 z7 z8 => by
    obtain ⟨q1, q2⟩ := h.slot E' rfl hst hsn a (opF op (s.slots.getD b 0) (s.slots.getD c 0))
    unfold RfOut at hQ
    rw [ops_do hop, ops_next hop] at hQ
    exact hQ _ _ z0 z1 z6 z7 z8 q1 q2
  rw [i64s_set]
  refine key _ _ ⟨by simp only [at_nx]; omega, fun q hq => ?_⟩ rfl rfl rfl rfl rfl
  have e1 := E3.2 q (by simp only [at_nx]; omega)
  simp -implicitDefEqProofs (disch := omega) only [go_sem] at e1 ⊢
  exact e1
end Go.Proofs.YtgccjneplchojaaGreatDoor
namespace Go.Proofs.YtgccjneplchojaaGreatDoor
open Go.Eng Go.Plain
set_option autoImplicit false
set_option maxRecDepth 100000
variable {nat : ∀ [Deep], Nats}
theorem rf_then (U : Usual nat) {bd : Code} (hbd : findL 30 (fnB Tryz.f25) = some bd) {K : Kont} {η : HN} {T : Nat → Nat} {φ : FN} {mp pc ticks : Nat} {i : Ins} {yi ys yo ym : AV} {s : Sm} {z : PV} {p : PD} {inn : List Nat} (I : RfIn η T φ mp pc ticks i yi ys yo ym s z p inn) (hk : kindsF p i = true) (k : SmK p inn s) (hQ : RfOut K η T φ pc i ys yo ym s p inn) : wpN Tryz.prog (CallN Tryz.prog nat) pl25 bd K φ η := by
  have hop := (there_facts I.ht).1
  have hr := fun h => ref_at (i := i) hk k h (getD_ok I.hlt i.b)
  obtain ⟨op, a, b, c⟩ := i
  dsimp only at hop hr
  by_cases q0 : op = 0
  · subst q0; exact rf_0 U hbd I hQ
  by_cases q1 : op = 1
  · subst q1; exact rf_1 U hbd I hQ
  by_cases q2 : op = 2
  · subst q2; exact rf_2 U hbd I hQ
  by_cases q3 : op = 3
  · subst q3; exact rf_3 U hbd I hQ
  by_cases q4 : op = 4
  · subst q4; exact rf_4 U hbd I hQ
  by_cases q5 : op = 5
  · subst q5; exact rf_5 U hbd I hQ
  by_cases q6 : op = 6
  · subst q6; exact rf_6 U hbd I hQ
  by_cases q7 : op = 7
  · subst q7; exact rf_7 U hbd I hQ
  by_cases q8 : 8 ≤ op ∧ op ≤ 18
  · exact rf_ops U hbd q8 I (hr q8) hQ
  by_cases q19 : op = 19
  · subst q19; exact rf_19 U hbd I hQ
  by_cases q20 : op = 20
  · subst q20; exact rf_20 U hbd I hQ
  omega
theorem check_kind {p : PD} (h : (checkF p).2 = 0) (pc : Nat) (hpc : pc < p.code.length) : kindsF p p.code[pc] = true := by
  have hp := check_parts h
  have ht := check_first h
  unfold checkF at h
  rw [hp, if_pos rfl, ht] at h
  cases hf : firstF (fun _ => kindsF p) p.code 0 with
  | none => exact first_none hf pc hpc
  | some x => rw [hf] at h; exact absurd h (show ¬ (3 = 0) by decide)
def RfI (p : PD) (inn ms : List Nat) (T : Nat → Nat) (mp : Nat) (yi ys yo ym : AV) (η1 : HN) (m : Nat) (φ : FN) (η : HN) : Prop :=
  ∃ pc s, m = p.code.length - pc ∧ pc ≤ p.code.length ∧ φ 0 = .ptr mp 0 ∧ φ 1 = yi ∧ φ 6 = ys ∧ φ 7 = yo ∧ φ 8 = .int .i64 pc ∧ RfAt η T s ys yo ym ∧ KpS T η1 η ∧ SmOk p inn s ∧ SmK p inn s ∧ goM p inn pc s = stepM p ms inn
set_option maxHeartbeats 2000000 in
theorem refstep_then (U : Usual nat) {η : HN} {lo hi mp mb ticks : Nat} {z : PV} {p : PD} {ms inn : List Nat} {yi : AV} {Q : AV → HN → Prop} (M : MachAt lo hi η mp mb z p ms ticks) (hf : Fine p) (hc : (checkF p).2 = 0) (hkm : KOk p.mems ms) (hy : Stays η mp mb yi inn) (hin : inn.length ≤ 9223372036854775807 ∧ ∀ n ∈ inn, n < 18446744073709551616) (ht : ticks < 9223372036854775807)
    (hno : fitF p.ins inn = false → Q (.tup [.nilslice, .bool false]) η)
    (hyes : fitF p.ins inn = true → ∀ yo η', MachAt lo hi η' mp mb z p (stepM p ms inn).mems (ticks + 1) → KOk p.mems (stepM p ms inn).mems → OutAt η.nx η' yo (stepM p ms inn).outs → η.nx ≤ η'.nx → (∀ b, b < η.nx → b ≠ mp → b ≠ mb → η'.f b = η.f b) → Q (.tup [yo, .bool true]) η') :
    ∃ v η', CallN Tryz.prog nat 25 [.ptr mp 0, yi] η v η' ∧ Q v η' := by
  refine call_of (PT := pl25) Tryz.func25 rfl (U 25 (by decide)) ok25 rfl ?_
  have h1 := M.held.1
  have h2 := M.at_
  have h3 := M.mat
  have hl := M.len
  have hlt := M.lt
  obtain ⟨y, c1, c2⟩ := M.cells
  have hi0 := hy η (Nat.le_refl _) fun _ _ _ _ => rfl
  have hp0 := M.held.isP
  simp -implicitDefEqProofs (disch := omega) only [go_sem, c1]
  refine thenN_call ⟨_, _, fits_call U η z.z1 yi p.ins inn hp0.ins hi0 hf.ins.1 hin.1, ?_⟩
  cases hfit : fitF p.ins inn with
  | false =>
    simp -implicitDefEqProofs (disch := omega) only [go_sem, Bool.not_false]
    exact hno hfit
  | true =>
    have l3 := rdI_len hp0.slots hf.slots.1
    have l2 := rdI_len hp0.outs hf.outs.1
    have b3 := hf.slots.1
    have b2 := hf.outs.1
    have b6 := hf.code.1
    have q3 : ¬8 = 0 ∧ p.slots.length * 8 ≤ 140737488355328 := ⟨by decide, by omega⟩
    have q2 : ¬8 = 0 ∧ p.outs.length * 8 ≤ 140737488355328 := ⟨by decide, by omega⟩
    simp -implicitDefEqProofs (disch := omega) only [go_sem, Bool.not_true, c1, l3, l2, if_pos q3, if_pos q2]
    have hT : ∃ T : Nat → Nat, T = fun b => if b = mb then 3 else if b = η.nx then 1 else if b = η.nx + 1 then 2 else 0 := ⟨_, rfl⟩
    obtain ⟨T, hT⟩ := hT
    have t0 : ∀ b, b < η.nx → b ≠ mb → T b = 0 := fun b h4 h5 => by rw [hT]; show (if _ then _ else _) = _; rw [if_neg h5, if_neg (by omega), if_neg (by omega)]
    have t1 : T η.nx = 1 := by rw [hT]; show (if _ then _ else _) = _; rw [if_neg (by omega), if_pos rfl]
    have t2 : T (η.nx + 1) = 2 := by rw [hT]; show (if _ then _ else _) = _; rw [if_neg (by omega), if_neg (by omega), if_pos rfl]
    have t3 : T mb = 3 := by rw [hT]; show (if _ then _ else _) = _; rw [if_pos rfl]
    have tmb : ∀ b, T b = 3 → b = mb := fun b h4 => by
      rw [hT] at h4
      have h4 : (if b = mb then 3 else if b = η.nx then 1 else if b = η.nx + 1 then 2 else 0) = 3 := h4
      split at h4
      · assumption
      · split at h4
        · omega
        · split at h4 <;> omega
    have tout : ∀ b, T b = 2 → η.nx ≤ b := fun b h4 => by
      by_cases h5 : η.nx ≤ b
      · exact h5
      · by_cases h6 : b = mb
        · rw [h6, t3] at h4; omega
        · rw [t0 b (by omega) h6] at h4; omega
    have hinl : inn.length = p.ins.length := by
      unfold fitF at hfit
      exact (of_decide_eq_true (Bool.and_eq_true_iff.1 hfit).1).symm
    refine wpN_loop (RfI p inn ms T mp yi (.slice η.nx 0 p.slots.length (.kn p.slots.length)) (.slice (η.nx + 1) 0 p.outs.length (.kn p.outs.length)) y _) p.code.length ⟨0, zeroS p ms, rfl, Nat.zero_le _, rfl, rfl, rfl, rfl, rfl, ⟨?_, ?_, ?_⟩, ⟨Nat.le_refl _, fun _ _ _ => rfl⟩, zero_ok ⟨hl, hlt.1⟩ ⟨hinl, hin.2⟩, ⟨.zero _, hkm, .fit hfit⟩, goM_0⟩ ?_
    · exact .inr ⟨η.nx, _, by show _ = AV.slice _ 0 (List.replicate p.slots.length 0).length _; rw [List.length_replicate], by show _ < η.nx + 2; omega, t1, by simp -implicitDefEqProofs (disch := omega) only [go_sem]; unfold i64s zeroS; rw [List.map_replicate]⟩
    · exact .inr ⟨η.nx + 1, _, by show _ = AV.slice _ 0 (List.replicate p.outs.length 0).length _; rw [List.length_replicate], by show _ < η.nx + 2; omega, t2, by simp -implicitDefEqProofs (disch := omega) only [go_sem]; unfold i64s zeroS; rw [List.map_replicate]⟩
    · rcases c2 with c2 | ⟨cap, e1, e2⟩
      · exact .inl c2
      · exact .inr ⟨mb, cap, e1, by show _ < η.nx + 2; omega, t3, by simp -implicitDefEqProofs (disch := omega) only [go_sem]; exact e2⟩
    · rintro m φ η2 ⟨pc, s, hm, hpc, p0, p1, p6, p7, p8, S, K, ok, sk, hg⟩
      have kn : η.nx + 2 ≤ η2.nx := K.nx
      have kk : ∀ b, b < η.nx → b ≠ mb → η2.f b = η.f b := fun b hb hne => (K.keep b (by show b < η.nx + 2; omega) (t0 b hb hne)).trans (by simp -implicitDefEqProofs (disch := omega) only [go_sem])
      have x1 := (kk mp h2.2 (by omega)).trans c1
      have Hd := M.held.of (η' := η2) (by omega) fun b g1 g2 => kk b (by omega) (by omega)
      have hp2 := Hd.isP
      have hi2 := hy η2 (by omega) fun b g1 _ g2 => kk b g1 g2
      have l6 := rdC_len9 hp2.code (by omega)
      by_cases hlt2 : pc < p.code.length
      · have gt := nextI_gt (s := s) (check_there hc pc hlt2) hlt2
        exact rf_then U rfl ⟨hp2, hf, S, hi2, hlt2, rfl, check_there hc pc hlt2, ⟨ok.slots.1, ok.outs.1, ok.mems.1, ok.inn.1⟩, ok.slots.2, x1, by omega, p0, p1, p6, p7, p8⟩ (check_kind hc pc hlt2) sk fun φ' η' z0 z1 z6 z7 z8 S' K' =>
          ⟨p.code.length - nextI p.code[pc] pc s, by omega, _, _, rfl, gt.2, z0.trans p0, z1.trans p1, z6.trans p6, z7.trans p7, z8, S', K.trans K', doI_ok hf ok, doI_k (there_facts (check_there hc pc hlt2)).1 (check_kind hc pc hlt2) sk, (goM_next hc hlt2).trans hg⟩
      · obtain rfl : pc = p.code.length := by omega
        rw [goM_end (Nat.le_refl _)] at hg
        subst hg
        simp -implicitDefEqProofs (disch := omega) only [go_sem, p0, p1, p6, p7, p8, x1, l6]
        have pf : ∀ b x, b ≠ mp → (η2.put mp x).f b = η2.f b := fun b x hb => by show (if b = mp then _ else _) = _; rw [if_neg hb]
        refine hyes hfit _ _ ⟨Hd.of (Nat.le_refl _) fun b g1 g2 => pf b _ (by omega), ⟨h2.1, by show mp < η2.nx; omega⟩, ⟨h3.1, by show mb < η2.nx; omega, h3.2.2⟩, ⟨y, by show (if mp = mp then _ else _) = _; rw [if_pos rfl], ?_⟩, ok.mems.1, ok.mems.2, by omega⟩ sk.mems ?_ (by show η.nx ≤ η2.nx; omega) fun b g1 g2 g3 => (pf b _ g2).trans (kk b g1 g3)
        · rcases S.mems with g | ⟨b, cap, g1, g2, g3, g4⟩
          · exact .inl g
          · obtain rfl := tmb b g3
            exact .inr ⟨cap, g1, (pf b _ h3.2.2).trans g4⟩
        · rcases S.outs with g | ⟨b, cap, g1, g2, g3, g4⟩
          · exact ⟨η.nx + 1, by omega, by show _ < η2.nx; omega, .inl g⟩
          · have := tout b g3
            exact ⟨b, this, g2, .inr ⟨cap, g1, (pf b _ (by omega)).trans g4⟩⟩
end Go.Proofs.YtgccjneplchojaaGreatDoor
namespace Go.Proofs.YtgccjneplchojaaGreatDoor
open Go.Eng Go.Plain
set_option autoImplicit false
set_option maxRecDepth 100000
variable {nat : ∀ [Deep], Nats}
theorem refstep_go (U : Usual nat) {η : HN} {lo hi mp mb ticks : Nat} {z : PV} {p : PD} {ms inn : List Nat} {yi : AV} {Q : AV → HN → Prop} (M : MachAt lo hi η mp mb z p ms ticks) (hf : Fine p) (hc : (checkF p).2 = 0) (hkm : KOk p.mems ms) (hy : Stays η mp mb yi inn) (hin : inn.length ≤ 9223372036854775807 ∧ ∀ n ∈ inn, n < 18446744073709551616) (ht : ticks < 9223372036854775807)
    (h : ∀ x η', MachAt lo hi η' mp mb z p (goS p (ms, ticks) inn).1 (goS p (ms, ticks) inn).2 → KOk p.mems (goS p (ms, ticks) inn).1 → RowO η.nx η' x (outS p ms inn) → η.nx ≤ η'.nx → (∀ b, b < η.nx → b ≠ mp → b ≠ mb → η'.f b = η.f b) → Q (.tup [x, .bool (fitF p.ins inn)]) η') :
    ∃ v η', CallN Tryz.prog nat 25 [.ptr mp 0, yi] η v η' ∧ Q v η' := by
  unfold goS outS at h
  refine refstep_then U M hf hc hkm hy hin ht (fun hno => ?_) fun hyes yo η' M' K' O n k => ?_
  · rw [hno] at h
    exact h _ _ M hkm (.inl ⟨rfl, rfl⟩) (Nat.le_refl _) fun _ _ _ _ => rfl
  · rw [hyes] at h
    exact h _ _ M' K' (.inr O) n k
theorem held_0 {η : HN} {z : PV} {p : PD} (hp : IsP η z p) : Held 0 η.nx η z p := ⟨Nat.le_refl _, fun _ n k => hp.ext ⟨n, fun b hb => k b (Nat.zero_le b) hb⟩⟩
end Go.Proofs.YtgccjneplchojaaGreatDoor
