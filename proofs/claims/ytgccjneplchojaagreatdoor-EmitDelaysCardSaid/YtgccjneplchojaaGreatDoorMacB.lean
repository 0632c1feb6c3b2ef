/- What is proved: the document's own machine, as it begins; an instruction of its step. Conditions: as each theorem says. -/
import Derived.Test.YtgccjneplchojaaGreatDoorMacA
set_option linter.unusedVariables false
set_option linter.unusedSimpArgs false
set_option linter.unusedSectionVars false
namespace Go.Proofs.YtgccjneplchojaaGreatDoor
open Go.Eng Go.Plain
set_option autoImplicit false
set_option maxRecDepth 100000
variable {nat : ∀ [Deep], Nats}
def fsI (η0 : HN) (a b : AV) (ks ls : List Nat) (m : Nat) (φ : FN) (η : HN) : Prop := η = η0 ∧ ∃ i, m = ks.length - i ∧ i ≤ ks.length ∧ φ 0 = a ∧ φ 1 = b ∧ φ 5 = .int .i64 i ∧ ∀ j, j < i → (!(decide (ks.getD j 0 = 1) && (!decide (ls.getD j 0 = 0) && !decide (ls.getD j 0 = 1)))) = true
set_option maxHeartbeats 1000000 in
theorem fits_call (U : Usual nat) (η : HN) (y z : AV) (ks ls : List Nat) (hy : RdI .i64 η y ks) (hz : RdI .i64 η z ls) (hk : ks.length ≤ 1099511627776) (hl : ls.length ≤ 9223372036854775807) : CallN Tryz.prog nat 46 [y, z] η (.bool (fitF ks ls)) η := by
  have : ∃ v η', CallN Tryz.prog nat 46 [y, z] η v η' ∧ v = .bool (fitF ks ls) ∧ η' = η := by
    refine call_of (PT := pl46) Tryz.func46 rfl (U 46 (by decide)) ok46 rfl ?_
    have l1 := rdI_len hy hk
    have l2 := rdI_len9 hz hl
    unfold fitF
    by_cases he : ks.length = ls.length
    · rw [decide_eq_true he, Bool.true_and]
      simp -implicitDefEqProofs (disch := omega) only [go_sem, l1, l2, Bool.not_true]
      refine wpN_loop (fsI η y z ks ls) ks.length ⟨rfl, 0, by omega, by omega, rfl, rfl, rfl, fun j hj => absurd hj (Nat.not_lt_zero j)⟩ ?_
      rintro m φ η1 ⟨rfl, i, hm, hi, p0, p1, p5, hall⟩
      by_cases hlt : i < ks.length
      · obtain ⟨b, off, cap, ro, row, ye, hb, hbn, hr⟩ := hy.at hlt
        obtain ⟨b2, off2, cap2, ro2, row2, ze, hb2, hbn2, hr2⟩ := hz.at (show i < ls.length by omega)
        have more : ∀ c : Bool, (!(decide (ks.getD i 0 = 1) && (!decide (ls.getD i 0 = 0) && !decide (ls.getD i 0 = 1)))) = c → c = true → ∀ j, j < i + 1 → (!(decide (ks.getD j 0 = 1) && (!decide (ls.getD j 0 = 0) && !decide (ls.getD j 0 = 1)))) = true := fun c e1 e2 j hj => by
          by_cases h : j = i
          · rw [h, e1, e2]
          · exact hall j (by omega)
        rw [getD_get _ _ hlt, getD_get _ _ (show i < ls.length by omega)] at more
        rw [ye] at p0
        rw [ze] at p1
        by_cases k1 : ks[i] = 1
        · by_cases k2 : ls[i] = 0
          · rw [k1] at hr
            rw [k2] at hr2
            simp -implicitDefEqProofs (disch := omega) only [go_sem, p0, p1, p5, l1, l2, hb, hr, hb2, hr2, Bool.not_true, Bool.not_false]
            exact ⟨_, by omega, rfl, i + 1, rfl, by omega, ye ▸ p0, ze ▸ p1, rfl, more true (by simp [k2]) rfl⟩
          by_cases k3 : ls[i] = 1
          · rw [k1] at hr
            rw [k3] at hr2
            simp -implicitDefEqProofs (disch := omega) only [go_sem, p0, p1, p5, l1, l2, hb, hr, hb2, hr2, Bool.not_true, Bool.not_false]
            exact ⟨_, by omega, rfl, i + 1, rfl, by omega, ye ▸ p0, ze ▸ p1, rfl, more true (by simp [k3]) rfl⟩
          · rw [k1] at hr
            have bad : ((List.range ks.length).all fun i => !(decide (ks.getD i 0 = 1) && (!decide (ls.getD i 0 = 0) && !decide (ls.getD i 0 = 1)))) = false := by
              cases hq : ((List.range ks.length).all fun i => !(decide (ks.getD i 0 = 1) && (!decide (ls.getD i 0 = 0) && !decide (ls.getD i 0 = 1)))) with
              | false => rfl
              | true =>
                rw [List.all_eq_true] at hq
                have := hq i (List.mem_range.2 hlt)
                rw [getD_get _ _ hlt, getD_get _ _ (show i < ls.length by omega), decide_eq_true k1, decide_eq_false k2, decide_eq_false k3] at this
                cases this
            rw [bad]
            simp -implicitDefEqProofs (disch := omega) only [go_sem, p0, p1, p5, l1, l2, hb, hr, hb2, hr2, Bool.not_true, Bool.not_false]
        · simp -implicitDefEqProofs (disch := omega) only [go_sem, p0, p1, p5, l1, l2, hb, hr, hb2, hr2, Bool.not_true, Bool.not_false]
          exact ⟨_, by omega, rfl, i + 1, rfl, by omega, ye ▸ p0, ze ▸ p1, rfl, more true (by simp [k1]) rfl⟩
      · obtain rfl : i = ks.length := by omega
        have good : ((List.range ks.length).all fun i => !(decide (ks.getD i 0 = 1) && (!decide (ls.getD i 0 = 0) && !decide (ls.getD i 0 = 1)))) = true := by
          rw [List.all_eq_true]; intro j hj; exact hall j (List.mem_range.1 hj)
        rw [good]
        simp -implicitDefEqProofs (disch := omega) only [go_sem, p0, p1, p5, l1, l2]
    · rw [decide_eq_false he, Bool.false_and]
      simp -implicitDefEqProofs (disch := omega) only [go_sem, l1, l2, Bool.not_false]
  obtain ⟨v, η', k, rfl, rfl⟩ := this
  exact k
theorem opNm_at {op : Nat} (h : 6 ≤ op ∧ op ≤ 18) : ([.str 3 7630702, .str 3 6776174, .str 1 43, .str 1 45, .str 1 42, .str 1 47, .str 3 6582125, .str 1 61, .str 1 60, .str 2 15676, .str 3 6581857, .str 2 29295, .str 3 7499640] : List AV)[op - 6]? = some (opStr op) := by
  have : op = 6 ∨ op = 7 ∨ op = 8 ∨ op = 9 ∨ op = 10 ∨ op = 11 ∨ op = 12 ∨ op = 13 ∨ op = 14 ∨ op = 15 ∨ op = 16 ∨ op = 17 ∨ op = 18 := by omega
  rcases this with rfl | rfl | rfl | rfl | rfl | rfl | rfl | rfl | rfl | rfl | rfl | rfl | rfl <;> rfl
theorem ops62_then (U : Usual nat) {η : HN} {op : Nat} {Q : AV → HN → Prop} (hop : 6 ≤ op ∧ op ≤ 18) (h : ∀ η', ExtB η.nx η η' → Q (opStr op) η') : ∃ v η', CallN Tryz.prog nat 48 [.int .i64 op] η v η' ∧ Q v η' := by
  refine call_of (PT := pl48) Tryz.func48 rfl (U 48 (by decide)) ok48 rfl ?_
  have hr13 : List.replicate 13 (AV.str 0 0) = [.str 0 0, .str 0 0, .str 0 0, .str 0 0, .str 0 0, .str 0 0, .str 0 0, .str 0 0, .str 0 0, .str 0 0, .str 0 0, .str 0 0, .str 0 0] := rfl
  have hnm := opNm_at hop
  simp -implicitDefEqProofs (disch := omega) only [go_sem, hr13, setsL_step, Nat.reduceMul, Nat.reduceAdd, hnm]
  exact h _ (extN (.refl _ _))
theorem refnew_then (U : Usual nat) {η : HN} {lo hi : Nat} {z : PV} {p : PD} {Q : AV → HN → Prop} (hh : Held lo hi η z p) (hf : Fine p)
    (h : ∀ mp mb η', MachAt lo hi η' mp mb z p (List.replicate p.mems.length 0) 0 → η.nx ≤ mp → η.nx ≤ mb → ExtB η.nx η η' → Q (.ptr mp 0) η') : ∃ v η', CallN Tryz.prog nat 24 [.agg z.cells] η v η' ∧ Q v η' := by
  refine call_of (PT := pl24) Tryz.func24 rfl (U 24 (by decide)) ok24 rfl ?_
  have hp := hh.isP
  have hh1 := hh.1
  have l4 := rdI_len hp.mems hf.mems.1
  have b4 := hf.mems.1
  have hc : ¬8 = 0 ∧ p.mems.length * 8 ≤ 140737488355328 := ⟨by decide, by omega⟩
  simp -implicitDefEqProofs (disch := omega) only [go_sem, l4, if_pos hc]
  generalize hZ : (((((η.new (BN.live false z.cells)).at_ (η.nx + 1 + (1 + 1 + 1 + 1))).new (BN.live false (List.replicate p.mems.length (AV.int IntKind.i64 0)))).at_ (η.nx + 1 + (1 + 1 + 1 + 1 + 1 + 1))).new (BN.live false [z.z1, z.z2, z.z3, z.z4, z.z5, z.z6, AV.slice (η.nx + 1 + (1 + 1 + 1 + 1)) 0 p.mems.length (Cp.kn p.mems.length), AV.int IntKind.i64 0])).at_ (η.nx + 1 + (1 + 1 + 1 + 1 + 1 + 1 + 1 + 1)) = Z
  have zn : Z.nx = η.nx + 9 := by rw [← hZ]; rfl
  have z7 : Z.f (η.nx + 7) = .live false [z.z1, z.z2, z.z3, z.z4, z.z5, z.z6, .slice (η.nx + 5) 0 p.mems.length (.kn p.mems.length), .int .i64 0] := by rw [← hZ]; simp -implicitDefEqProofs (disch := omega) only [go_sem]
  have z5 : Z.f (η.nx + 5) = .live false (List.replicate p.mems.length (.int .i64 0)) := by rw [← hZ]; simp -implicitDefEqProofs (disch := omega) only [go_sem]
  have zk : ∀ b, b < η.nx → Z.f b = η.f b := fun b hb => by rw [← hZ]; simp -implicitDefEqProofs (disch := omega) only [go_sem]
  refine h (η.nx + 7) (η.nx + 5) Z ⟨hh.of (by omega) fun b _ hb => zk b (by omega), ⟨by omega, by omega⟩, ⟨by omega, by omega, by omega⟩, ⟨_, z7, .inr ⟨_, by rw [List.length_replicate], by rw [z5]; unfold i64s; rw [List.map_replicate]⟩⟩, List.length_replicate, fun n hn => by have := (List.mem_replicate.1 hn).2; omega, by decide⟩ (by omega) (by omega) ⟨by omega, zk⟩
end Go.Proofs.YtgccjneplchojaaGreatDoor
namespace Go.Proofs.YtgccjneplchojaaGreatDoor
open Go.Eng Go.Plain
set_option autoImplicit false
set_option maxRecDepth 100000
variable {nat : ∀ [Deep], Nats}
/-- the loop in a function's body -/
def findL : Nat → Code → Option Code
  | 0, _ => none
  | n + 1, .seq a b => match findL n a with | some c => some c | none => findL n b
  | n + 1, .block _ b => findL n b
  | _ + 1, .loop b => some b
  | _ + 1, _ => none
def fnB (f : Func) : Code := match f.body with | some c => c | none => .skip
structure RfAt (η : HN) (T : Nat → Nat) (s : Sm) (ys yo ym : AV) : Prop where
  slots : SlAt η T 1 ys s.slots
  outs : SlAt η T 2 yo s.outs
  mems : SlAt η T 3 ym s.mems
theorem RfAt.slot {η η1 : HN} {T : Nat → Nat} {ys yo ym : AV} {s : Sm} {b : Nat} {cap : Cp} (h : RfAt η T s ys yo ym) (E : ExtB η.nx η η1) (hy : ys = .slice b 0 s.slots.length cap) (hb : T b = 1) (hbn : b < η.nx) (a x : Nat) :
    RfAt (η1.put b (.live false (i64s (s.slots.set a x)))) T { s with slots := s.slots.set a x } ys yo ym ∧ KpS T η (η1.put b (.live false (i64s (s.slots.set a x)))) := by
  have hn := E.1
  have hne : ∀ c, c < η.nx → T c ≠ 1 → (η1.put b (.live false (i64s (s.slots.set a x)))).f c = η.f c := fun c hc ht => by
    show (if c = b then _ else _) = _
    rw [if_neg (fun e => ht (by rw [e]; exact hb))]
    exact E.2 c hc
  exact ⟨⟨.inr ⟨b, cap, by rw [List.length_set]; exact hy, Nat.lt_of_lt_of_le hbn hn, hb, by show (if b = b then _ else _) = _; rw [if_pos rfl]⟩, h.outs.of hn fun c hc ht => hne c hc (by omega), h.mems.of hn fun c hc ht => hne c hc (by omega)⟩, ⟨hn, fun c hc ht => hne c hc (by omega)⟩⟩
theorem RfAt.out {η η1 : HN} {T : Nat → Nat} {ys yo ym : AV} {s : Sm} {b : Nat} {cap : Cp} (h : RfAt η T s ys yo ym) (E : ExtB η.nx η η1) (hy : yo = .slice b 0 s.outs.length cap) (hb : T b = 2) (hbn : b < η.nx) (a x : Nat) :
    RfAt (η1.put b (.live false (i64s (s.outs.set a x)))) T { s with outs := s.outs.set a x } ys yo ym ∧ KpS T η (η1.put b (.live false (i64s (s.outs.set a x)))) := by
  have hn := E.1
  have hne : ∀ c, c < η.nx → T c ≠ 2 → (η1.put b (.live false (i64s (s.outs.set a x)))).f c = η.f c := fun c hc ht => by
    show (if c = b then _ else _) = _
    rw [if_neg (fun e => ht (by rw [e]; exact hb))]
    exact E.2 c hc
  exact ⟨⟨h.slots.of hn fun c hc ht => hne c hc (by omega), .inr ⟨b, cap, by rw [List.length_set]; exact hy, Nat.lt_of_lt_of_le hbn hn, hb, by show (if b = b then _ else _) = _; rw [if_pos rfl]⟩, h.mems.of hn fun c hc ht => hne c hc (by omega)⟩, ⟨hn, fun c hc ht => hne c hc (by omega)⟩⟩
theorem RfAt.mem {η η1 : HN} {T : Nat → Nat} {ys yo ym : AV} {s : Sm} {b : Nat} {cap : Cp} (h : RfAt η T s ys yo ym) (E : ExtB η.nx η η1) (hy : ym = .slice b 0 s.mems.length cap) (hb : T b = 3) (hbn : b < η.nx) (a x : Nat) :
    RfAt (η1.put b (.live false (i64s (s.mems.set a x)))) T { s with mems := s.mems.set a x } ys yo ym ∧ KpS T η (η1.put b (.live false (i64s (s.mems.set a x)))) := by
  have hn := E.1
  have hne : ∀ c, c < η.nx → T c ≠ 3 → (η1.put b (.live false (i64s (s.mems.set a x)))).f c = η.f c := fun c hc ht => by
    show (if c = b then _ else _) = _
    rw [if_neg (fun e => ht (by rw [e]; exact hb))]
    exact E.2 c hc
  exact ⟨⟨h.slots.of hn fun c hc ht => hne c hc (by omega), h.outs.of hn fun c hc ht => hne c hc (by omega), .inr ⟨b, cap, by rw [List.length_set]; exact hy, Nat.lt_of_lt_of_le hbn hn, hb, by show (if b = b then _ else _) = _; rw [if_pos rfl]⟩⟩, ⟨hn, fun c hc ht => hne c hc (by omega)⟩⟩
theorem RfAt.same {η η1 : HN} {T : Nat → Nat} {ys yo ym : AV} {s : Sm} (h : RfAt η T s ys yo ym) (E : ExtB η.nx η η1) : RfAt η1 T s ys yo ym ∧ KpS T η η1 :=
  ⟨⟨h.slots.of E.1 fun c hc _ => E.2 c hc, h.outs.of E.1 fun c hc _ => E.2 c hc, h.mems.of E.1 fun c hc _ => E.2 c hc⟩, ⟨E.1, fun c hc _ => E.2 c hc⟩⟩
/-- what an instruction is asked, what it gives -/
structure RfIn (η : HN) (T : Nat → Nat) (φ : FN) (mp pc ticks : Nat) (i : Ins) (yi ys yo ym : AV) (s : Sm) (z : PV) (p : PD) (inn : List Nat) : Prop where
  hp : IsP η z p
  hf : Fine p
  h : RfAt η T s ys yo ym
  hi : RdI .i64 η yi inn
  hpc : pc < p.code.length
  hi0 : p.code[pc] = i
  ht : thereF p pc i = true
  hS : s.slots.length = p.slots.length ∧ s.outs.length = p.outs.length ∧ s.mems.length = p.mems.length ∧ inn.length = p.ins.length
  hlt : ∀ n ∈ s.slots, n < 18446744073709551616
  hm : η.f mp = .live false [z.z1, z.z2, z.z3, z.z4, z.z5, z.z6, ym, .int .i64 ticks]
  hmn : mp < η.nx
  p0 : φ 0 = .ptr mp 0
  p1 : φ 1 = yi
  p6 : φ 6 = ys
  p7 : φ 7 = yo
  p8 : φ 8 = .int .i64 pc
theorem refop6_then (U : Usual nat) {η : HN} {y : AV} {a : Nat} {Q : AV → HN → Prop} (hy : RdI .i64 η y [a]) (h : Q (.int .i64 ((1 + (18446744073709551616 - a)) % 18446744073709551616)) η) : ∃ v η', CallN Tryz.prog nat 47 [opStr 6, y] η v η' ∧ Q v η' := by
  obtain ⟨v, η', k, rfl, rfl⟩ := refop_6 U hy
  exact ⟨_, _, k, h⟩
theorem refop7_then (U : Usual nat) {η : HN} {y : AV} {a : Nat} {Q : AV → HN → Prop} (hy : RdI .i64 η y [a]) (h : Q (.int .i64 ((18446744073709551616 - a) % 18446744073709551616)) η) : ∃ v η', CallN Tryz.prog nat 47 [opStr 7, y] η v η' ∧ Q v η' := by
  obtain ⟨v, η', k, rfl, rfl⟩ := refop_7 U hy
  exact ⟨_, _, k, h⟩
def RfOut (K : Kont) (η : HN) (T : Nat → Nat) (φ : FN) (pc : Nat) (i : Ins) (ys yo ym : AV) (s : Sm) (p : PD) (inn : List Nat) : Prop := ∀ φ' η', φ' 0 = φ 0 → φ' 1 = φ 1 → φ' 6 = φ 6 → φ' 7 = φ 7 → φ' 8 = .int .i64 (nextI i pc s) → RfAt η' T (doI p inn i s) ys yo ym → KpS T η η' → K .normal φ' η'
set_option maxHeartbeats 2000000 in
theorem rf_0 (U : Usual nat) {bd : Code} (hbd : findL 30 (fnB Tryz.f25) = some bd) {K : Kont} {η : HN} {T : Nat → Nat} {φ : FN} {mp pc ticks a b c : Nat} {yi ys yo ym : AV} {s : Sm} {z : PV} {p : PD} {inn : List Nat} (I : RfIn η T φ mp pc ticks ⟨0, a, b, c⟩ yi ys yo ym s z p inn) (hQ : RfOut K η T φ pc ⟨0, a, b, c⟩ ys yo ym s p inn) : wpN Tryz.prog (CallN Tryz.prog nat) pl25 bd K φ η := by
  obtain rfl : bd = _ := Option.some.inj (hbd.symm.trans rfl)
  obtain ⟨hp, hf, h, hi, hpc, hi0, ht, hS, hlt, hm, hmn, p0, p1, p6, p7, p8⟩ := I
  obtain ⟨hS, hO, hM, hI⟩ := hS
  obtain ⟨bc, offc, capc, roc, rowc, z6e, hbc, hbcn, hlc, hrc, getlt, g2, g3, g4, b1, b2, b3, b4, b5, b6⟩ := ins_facts hp hf hpc hi0 hlt
  have l6 := rdC_len9 hp.code (by omega)
  have hrc : _ = ([.int .i64 0, .int .i64 a, .int .i64 b, .int .i64 c] : List AV) := hrc
  rw [z6e] at hm l6
  have ht : (has p.slots a && has p.consts b) = true := ht
  have E : ExtB η.nx η ((η.new (.live false [.int .i64 0, .int .i64 0, .int .i64 0, .int .i64 0])).put η.nx (.live false [.int .i64 0, .int .i64 a, .int .i64 b, .int .i64 c])) := extP (extN (.refl _ _))
  obtain ⟨t1, t2⟩ := and_lt ht
  have u1 := has_lt t1
  have u2 := has_lt t2
  obtain ⟨bs, caps, rfl, hsn, hst, hsb⟩ := h.slots.at (i := a) (by omega)
  obtain ⟨bq, offq, capq, roq, rowq, zq, hbq, hbqn, hrq⟩ := hp.consts.at u2
  rw [zq] at hm
  simp -implicitDefEqProofs (disch := omega) only [go_sem, p0, p1, p6, p7, p8, l6, hm, hbc, hrc, hsb, hbq, hrq, not_le_f, false_implies, implies_true, true_and, and_true]
  rw [i64s_set]
  obtain ⟨q1, q2⟩ := h.slot E rfl hst hsn a (p.consts.getD b 0)
  rw [getD_get _ _ (by omega)] at q1 q2
  have hd : doI p inn ⟨0, a, b, c⟩ s = { s with slots := s.slots.set a (p.consts.getD b 0) } := rfl
  rw [getD_get _ _ (by omega)] at hd
  exact hQ _ _ rfl rfl rfl rfl rfl (by rw [hd]; exact q1) q2
set_option maxHeartbeats 2000000 in
theorem rf_1 (U : Usual nat) {bd : Code} (hbd : findL 30 (fnB Tryz.f25) = some bd) {K : Kont} {η : HN} {T : Nat → Nat} {φ : FN} {mp pc ticks a b c : Nat} {yi ys yo ym : AV} {s : Sm} {z : PV} {p : PD} {inn : List Nat} (I : RfIn η T φ mp pc ticks ⟨1, a, b, c⟩ yi ys yo ym s z p inn) (hQ : RfOut K η T φ pc ⟨1, a, b, c⟩ ys yo ym s p inn) : wpN Tryz.prog (CallN Tryz.prog nat) pl25 bd K φ η := by
  obtain rfl : bd = _ := Option.some.inj (hbd.symm.trans rfl)
  obtain ⟨hp, hf, h, hi, hpc, hi0, ht, hS, hlt, hm, hmn, p0, p1, p6, p7, p8⟩ := I
  obtain ⟨hS, hO, hM, hI⟩ := hS
  obtain ⟨bc, offc, capc, roc, rowc, z6e, hbc, hbcn, hlc, hrc, getlt, g2, g3, g4, b1, b2, b3, b4, b5, b6⟩ := ins_facts hp hf hpc hi0 hlt
  have l6 := rdC_len9 hp.code (by omega)
  have hrc : _ = ([.int .i64 1, .int .i64 a, .int .i64 b, .int .i64 c] : List AV) := hrc
  rw [z6e] at hm l6
  have ht : (has p.slots a && has p.slots b) = true := ht
  have E : ExtB η.nx η ((η.new (.live false [.int .i64 0, .int .i64 0, .int .i64 0, .int .i64 0])).put η.nx (.live false [.int .i64 1, .int .i64 a, .int .i64 b, .int .i64 c])) := extP (extN (.refl _ _))
  obtain ⟨t1, t2⟩ := and_lt ht
  have u1 := has_lt t1
  have u2 := has_lt t2
  obtain ⟨bs, caps, rfl, hsn, hst, hsb⟩ := h.slots.at (i := a) (by omega)
  have g1 := i64s_at (l := s.slots) (i := b) (by omega)
  have lb := getlt b
  simp -implicitDefEqProofs (disch := omega) only [go_sem, p0, p1, p6, p7, p8, l6, hm, hbc, hrc, hsb, g1, not_le_f, false_implies, implies_true, true_and, and_true]
  rw [i64s_set]
  obtain ⟨q1, q2⟩ := h.slot E rfl hst hsn a (s.slots.getD b 0)
  exact hQ _ _ rfl rfl rfl rfl rfl q1 q2
set_option maxHeartbeats 2000000 in
theorem rf_2 (U : Usual nat) {bd : Code} (hbd : findL 30 (fnB Tryz.f25) = some bd) {K : Kont} {η : HN} {T : Nat → Nat} {φ : FN} {mp pc ticks a b c : Nat} {yi ys yo ym : AV} {s : Sm} {z : PV} {p : PD} {inn : List Nat} (I : RfIn η T φ mp pc ticks ⟨2, a, b, c⟩ yi ys yo ym s z p inn) (hQ : RfOut K η T φ pc ⟨2, a, b, c⟩ ys yo ym s p inn) : wpN Tryz.prog (CallN Tryz.prog nat) pl25 bd K φ η := by
  obtain rfl : bd = _ := Option.some.inj (hbd.symm.trans rfl)
  obtain ⟨hp, hf, h, hi, hpc, hi0, ht, hS, hlt, hm, hmn, p0, p1, p6, p7, p8⟩ := I
  obtain ⟨hS, hO, hM, hI⟩ := hS
  obtain ⟨bc, offc, capc, roc, rowc, z6e, hbc, hbcn, hlc, hrc, getlt, g2, g3, g4, b1, b2, b3, b4, b5, b6⟩ := ins_facts hp hf hpc hi0 hlt
  have l6 := rdC_len9 hp.code (by omega)
  have hrc : _ = ([.int .i64 2, .int .i64 a, .int .i64 b, .int .i64 c] : List AV) := hrc
  rw [z6e] at hm l6
  have ht : (has p.slots a && has p.mems b) = true := ht
  have E : ExtB η.nx η ((η.new (.live false [.int .i64 0, .int .i64 0, .int .i64 0, .int .i64 0])).put η.nx (.live false [.int .i64 2, .int .i64 a, .int .i64 b, .int .i64 c])) := extP (extN (.refl _ _))
  obtain ⟨t1, t2⟩ := and_lt ht
  have u1 := has_lt t1
  have u2 := has_lt t2
  obtain ⟨bs, caps, rfl, hsn, hst, hsb⟩ := h.slots.at (i := a) (by omega)
  obtain ⟨bm, capm, rfl, hmn', hmt, hmb⟩ := h.mems.at (i := b) (by omega)
  have g1 := i64s_at (l := s.mems) (i := b) (by omega)
  simp -implicitDefEqProofs (disch := omega) only [go_sem, p0, p1, p6, p7, p8, l6, hm, hbc, hrc, hsb, hmb, g1, not_le_f, false_implies, implies_true, true_and, and_true]
  rw [i64s_set]
  obtain ⟨q1, q2⟩ := h.slot E rfl hst hsn a (s.mems.getD b 0)
  exact hQ _ _ rfl rfl rfl rfl rfl q1 q2
set_option maxHeartbeats 2000000 in
theorem rf_3 (U : Usual nat) {bd : Code} (hbd : findL 30 (fnB Tryz.f25) = some bd) {K : Kont} {η : HN} {T : Nat → Nat} {φ : FN} {mp pc ticks a b c : Nat} {yi ys yo ym : AV} {s : Sm} {z : PV} {p : PD} {inn : List Nat} (I : RfIn η T φ mp pc ticks ⟨3, a, b, c⟩ yi ys yo ym s z p inn) (hQ : RfOut K η T φ pc ⟨3, a, b, c⟩ ys yo ym s p inn) : wpN Tryz.prog (CallN Tryz.prog nat) pl25 bd K φ η := by
  obtain rfl : bd = _ := Option.some.inj (hbd.symm.trans rfl)
  obtain ⟨hp, hf, h, hi, hpc, hi0, ht, hS, hlt, hm, hmn, p0, p1, p6, p7, p8⟩ := I
  obtain ⟨hS, hO, hM, hI⟩ := hS
  obtain ⟨bc, offc, capc, roc, rowc, z6e, hbc, hbcn, hlc, hrc, getlt, g2, g3, g4, b1, b2, b3, b4, b5, b6⟩ := ins_facts hp hf hpc hi0 hlt
  have l6 := rdC_len9 hp.code (by omega)
  have hrc : _ = ([.int .i64 3, .int .i64 a, .int .i64 b, .int .i64 c] : List AV) := hrc
  rw [z6e] at hm l6
  have ht : (has p.mems a && has p.slots b) = true := ht
  have E : ExtB η.nx η ((η.new (.live false [.int .i64 0, .int .i64 0, .int .i64 0, .int .i64 0])).put η.nx (.live false [.int .i64 3, .int .i64 a, .int .i64 b, .int .i64 c])) := extP (extN (.refl _ _))
  obtain ⟨t1, t2⟩ := and_lt ht
  have u1 := has_lt t1
  have u2 := has_lt t2
  obtain ⟨bs, caps, rfl, hsn, hst, hsb⟩ := h.slots.at (i := b) (by omega)
  obtain ⟨bm, capm, rfl, hmn', hmt, hmb⟩ := h.mems.at (i := a) (by omega)
  have g1 := i64s_at (l := s.slots) (i := b) (by omega)
  simp -implicitDefEqProofs (disch := omega) only [go_sem, p0, p1, p6, p7, p8, l6, hm, hbc, hrc, hsb, hmb, g1, not_le_f, false_implies, implies_true, true_and, and_true]
  rw [i64s_set]
  obtain ⟨q1, q2⟩ := h.mem E rfl hmt hmn' a (s.slots.getD b 0)
  exact hQ _ _ rfl rfl rfl rfl rfl q1 q2
set_option maxHeartbeats 2000000 in
theorem rf_4 (U : Usual nat) {bd : Code} (hbd : findL 30 (fnB Tryz.f25) = some bd) {K : Kont} {η : HN} {T : Nat → Nat} {φ : FN} {mp pc ticks a b c : Nat} {yi ys yo ym : AV} {s : Sm} {z : PV} {p : PD} {inn : List Nat} (I : RfIn η T φ mp pc ticks ⟨4, a, b, c⟩ yi ys yo ym s z p inn) (hQ : RfOut K η T φ pc ⟨4, a, b, c⟩ ys yo ym s p inn) : wpN Tryz.prog (CallN Tryz.prog nat) pl25 bd K φ η := by
  obtain rfl : bd = _ := Option.some.inj (hbd.symm.trans rfl)
  obtain ⟨hp, hf, h, hi, hpc, hi0, ht, hS, hlt, hm, hmn, p0, p1, p6, p7, p8⟩ := I
  obtain ⟨hS, hO, hM, hI⟩ := hS
  obtain ⟨bc, offc, capc, roc, rowc, z6e, hbc, hbcn, hlc, hrc, getlt, g2, g3, g4, b1, b2, b3, b4, b5, b6⟩ := ins_facts hp hf hpc hi0 hlt
  have l6 := rdC_len9 hp.code (by omega)
  have hrc : _ = ([.int .i64 4, .int .i64 a, .int .i64 b, .int .i64 c] : List AV) := hrc
  rw [z6e] at hm l6
  have ht : (has p.slots a && has p.ins b) = true := ht
  have E : ExtB η.nx η ((η.new (.live false [.int .i64 0, .int .i64 0, .int .i64 0, .int .i64 0])).put η.nx (.live false [.int .i64 4, .int .i64 a, .int .i64 b, .int .i64 c])) := extP (extN (.refl _ _))
  obtain ⟨t1, t2⟩ := and_lt ht
  have u1 := has_lt t1
  have u2 := has_lt t2
  obtain ⟨bs, caps, rfl, hsn, hst, hsb⟩ := h.slots.at (i := a) (by omega)
  obtain ⟨bq, offq, capq, roq, rowq, zq, hbq, hbqn, hrq⟩ := hi.at (i := b) (by omega)
  subst zq
  simp -implicitDefEqProofs (disch := omega) only [go_sem, p0, p1, p6, p7, p8, l6, hm, hbc, hrc, hsb, hbq, hrq, not_le_f, false_implies, implies_true, true_and, and_true]
  rw [i64s_set]
  obtain ⟨q1, q2⟩ := h.slot E rfl hst hsn a (inn.getD b 0)
  rw [getD_get _ _ (by omega)] at q1 q2
  have hd : doI p inn ⟨4, a, b, c⟩ s = { s with slots := s.slots.set a (inn.getD b 0) } := rfl
  rw [getD_get _ _ (by omega)] at hd
  exact hQ _ _ rfl rfl rfl rfl rfl (by rw [hd]; exact q1) q2
set_option maxHeartbeats 2000000 in
theorem rf_5 (U : Usual nat) {bd : Code} (hbd : findL 30 (fnB Tryz.f25) = some bd) {K : Kont} {η : HN} {T : Nat → Nat} {φ : FN} {mp pc ticks a b c : Nat} {yi ys yo ym : AV} {s : Sm} {z : PV} {p : PD} {inn : List Nat} (I : RfIn η T φ mp pc ticks ⟨5, a, b, c⟩ yi ys yo ym s z p inn) (hQ : RfOut K η T φ pc ⟨5, a, b, c⟩ ys yo ym s p inn) : wpN Tryz.prog (CallN Tryz.prog nat) pl25 bd K φ η := by
  obtain rfl : bd = _ := Option.some.inj (hbd.symm.trans rfl)
  obtain ⟨hp, hf, h, hi, hpc, hi0, ht, hS, hlt, hm, hmn, p0, p1, p6, p7, p8⟩ := I
  obtain ⟨hS, hO, hM, hI⟩ := hS
  obtain ⟨bc, offc, capc, roc, rowc, z6e, hbc, hbcn, hlc, hrc, getlt, g2, g3, g4, b1, b2, b3, b4, b5, b6⟩ := ins_facts hp hf hpc hi0 hlt
  have l6 := rdC_len9 hp.code (by omega)
  have hrc : _ = ([.int .i64 5, .int .i64 a, .int .i64 b, .int .i64 c] : List AV) := hrc
  rw [z6e] at hm l6
  have ht : (has p.outs a && has p.slots b) = true := ht
  have E : ExtB η.nx η ((η.new (.live false [.int .i64 0, .int .i64 0, .int .i64 0, .int .i64 0])).put η.nx (.live false [.int .i64 5, .int .i64 a, .int .i64 b, .int .i64 c])) := extP (extN (.refl _ _))
  obtain ⟨t1, t2⟩ := and_lt ht
  have u1 := has_lt t1
  have u2 := has_lt t2
  obtain ⟨bs, caps, rfl, hsn, hst, hsb⟩ := h.slots.at (i := b) (by omega)
  obtain ⟨bm, capm, rfl, hmn', hmt, hmb⟩ := h.outs.at (i := a) (by omega)
  have g1 := i64s_at (l := s.slots) (i := b) (by omega)
  simp -implicitDefEqProofs (disch := omega) only [go_sem, p0, p1, p6, p7, p8, l6, hm, hbc, hrc, hsb, hmb, g1, not_le_f, false_implies, implies_true, true_and, and_true]
  rw [i64s_set]
  obtain ⟨q1, q2⟩ := h.out E rfl hmt hmn' a (s.slots.getD b 0)
  exact hQ _ _ rfl rfl rfl rfl rfl q1 q2
set_option maxHeartbeats 2000000 in
theorem rf_6 (U : Usual nat) {bd : Code} (hbd : findL 30 (fnB Tryz.f25) = some bd) {K : Kont} {η : HN} {T : Nat → Nat} {φ : FN} {mp pc ticks a b c : Nat} {yi ys yo ym : AV} {s : Sm} {z : PV} {p : PD} {inn : List Nat} (I : RfIn η T φ mp pc ticks ⟨6, a, b, c⟩ yi ys yo ym s z p inn) (hQ : RfOut K η T φ pc ⟨6, a, b, c⟩ ys yo ym s p inn) : wpN Tryz.prog (CallN Tryz.prog nat) pl25 bd K φ η := by
  obtain rfl : bd = _ := Option.some.inj (hbd.symm.trans rfl)
  obtain ⟨hp, hf, h, hi, hpc, hi0, ht, hS, hlt, hm, hmn, p0, p1, p6, p7, p8⟩ := I
  obtain ⟨hS, hO, hM, hI⟩ := hS
  obtain ⟨bc, offc, capc, roc, rowc, z6e, hbc, hbcn, hlc, hrc, getlt, g2, g3, g4, b1, b2, b3, b4, b5, b6⟩ := ins_facts hp hf hpc hi0 hlt
  have l6 := rdC_len9 hp.code (by omega)
  have hrc : _ = ([.int .i64 6, .int .i64 a, .int .i64 b, .int .i64 c] : List AV) := hrc
  rw [z6e] at hm l6
  have ht : (has p.slots a && has p.slots b) = true := ht
  have E : ExtB η.nx η ((η.new (.live false [.int .i64 0, .int .i64 0, .int .i64 0, .int .i64 0])).put η.nx (.live false [.int .i64 6, .int .i64 a, .int .i64 b, .int .i64 c])) := extP (extN (.refl _ _))
  obtain ⟨t1, t2⟩ := and_lt ht
  have u1 := has_lt t1
  have u2 := has_lt t2
  obtain ⟨bs, caps, rfl, hsn, hst, hsb⟩ := h.slots.at (i := a) (by omega)
  have g1 := i64s_at (l := s.slots) (i := b) (by omega)
  have lb := getlt b
  simp -implicitDefEqProofs (disch := omega) only [go_sem, p0, p1, p6, p7, p8, l6, hm, hbc, hrc, hsb, g1, not_le_f, false_implies, implies_true, true_and, and_true]
  refine dE_call (ops62_then U (by decide) fun η3 E3 => ?_)
  have g3' := E3.1
  simp only [at_nx] at g3'
  have hsb3 : η3.f bs = _ := (E3.2 bs (by simp only [at_nx]; omega)).trans (by simp -implicitDefEqProofs (disch := omega) only [go_sem]; exact hsb)
  have hl3 : η3.f η.nx = .live false [.int .i64 6, .int .i64 a, .int .i64 b, .int .i64 c] := (E3.2 η.nx (by simp only [at_nx]; omega)).trans (by simp -implicitDefEqProofs (disch := omega) only [go_sem])
  simp -implicitDefEqProofs (disch := omega) only [go_sem, p0, p1, p6, p7, p8, l6, hm, hbc, hrc, hsb, g1, hsb3, hl3, not_le_f, false_implies, implies_true, true_and, and_true]
  refine dE_call (refop6_then U (RdR.blk [[.int .i64 (s.slots.getD b 0)]] (ro := false) ?_ ?_ (by simp)) ?_)
  · simp -implicitDefEqProofs (disch := omega) only [go_sem]; rfl
  · simp only [go_sem]; omega
  simp -implicitDefEqProofs (disch := omega) only [go_sem, p0, p1, p6, p7, p8, l6, hm, hbc, hrc, hsb, g1, hsb3, hl3, not_le_f, false_implies, implies_true, true_and, and_true]
  have key : ∀ (H : HN) (φ' : FN), ExtB η.nx η H → φ' 0 = φ 0 → φ' 1 = φ 1 → φ' 6 = φ 6 → φ' 7 = φ 7 → φ' 8 = .int .i64 (pc + 1) → K .normal φ' (H.put bs (.live false (i64s (s.slots.set a ((1 + (18446744073709551616 - s.slots.getD b 0)) % 18446744073709551616))))) := fun H φ' E' z0 z1 z6 z7 z8 => by
    obtain ⟨q1, q2⟩ := h.slot E' rfl hst hsn a ((1 + (18446744073709551616 - s.slots.getD b 0)) % 18446744073709551616)
    exact hQ _ _ z0 z1 z6 z7 z8 q1 q2
  rw [i64s_set]
  refine key _ _ ⟨by simp only [at_nx]; omega, fun q hq => ?_⟩ rfl rfl rfl rfl rfl
  have e1 := E3.2 q (by simp only [at_nx]; omega)
  simp -implicitDefEqProofs (disch := omega) only [go_sem] at e1 ⊢
  exact e1
set_option maxHeartbeats 2000000 in
theorem rf_7 (U : Usual nat) {bd : Code} (hbd : findL 30 (fnB Tryz.f25) = some bd) {K : Kont} {η : HN} {T : Nat → Nat} {φ : FN} {mp pc ticks a b c : Nat} {yi ys yo ym : AV} {s : Sm} {z : PV} {p : PD} {inn : List Nat} (I : RfIn η T φ mp pc ticks ⟨7, a, b, c⟩ yi ys yo ym s z p inn) (hQ : RfOut K η T φ pc ⟨7, a, b, c⟩ ys yo ym s p inn) : wpN Tryz.prog (CallN Tryz.prog nat) pl25 bd K φ η := by
  obtain rfl : bd = _ := Option.some.inj (hbd.symm.trans rfl)
  obtain ⟨hp, hf, h, hi, hpc, hi0, ht, hS, hlt, hm, hmn, p0, p1, p6, p7, p8⟩ := I
  obtain ⟨hS, hO, hM, hI⟩ := hS
  obtain ⟨bc, offc, capc, roc, rowc, z6e, hbc, hbcn, hlc, hrc, getlt, g2, g3, g4, b1, b2, b3, b4, b5, b6⟩ := ins_facts hp hf hpc hi0 hlt
  have l6 := rdC_len9 hp.code (by omega)
  have hrc : _ = ([.int .i64 7, .int .i64 a, .int .i64 b, .int .i64 c] : List AV) := hrc
  rw [z6e] at hm l6
  have ht : (has p.slots a && has p.slots b) = true := ht
  have E : ExtB η.nx η ((η.new (.live false [.int .i64 0, .int .i64 0, .int .i64 0, .int .i64 0])).put η.nx (.live false [.int .i64 7, .int .i64 a, .int .i64 b, .int .i64 c])) := extP (extN (.refl _ _))
  obtain ⟨t1, t2⟩ := and_lt ht
  have u1 := has_lt t1
  have u2 := has_lt t2
  obtain ⟨bs, caps, rfl, hsn, hst, hsb⟩ := h.slots.at (i := a) (by omega)
  have g1 := i64s_at (l := s.slots) (i := b) (by omega)
  have lb := getlt b
  simp -implicitDefEqProofs (disch := omega) only [go_sem, p0, p1, p6, p7, p8, l6, hm, hbc, hrc, hsb, g1, not_le_f, false_implies, implies_true, true_and, and_true]
  refine dE_call (ops62_then U (by decide) fun η3 E3 => ?_)
  have g3' := E3.1
  simp only [at_nx] at g3'
  have hsb3 : η3.f bs = _ := (E3.2 bs (by simp only [at_nx]; omega)).trans (by simp -implicitDefEqProofs (disch := omega) only [go_sem]; exact hsb)
  have hl3 : η3.f η.nx = .live false [.int .i64 7, .int .i64 a, .int .i64 b, .int .i64 c] := (E3.2 η.nx (by simp only [at_nx]; omega)).trans (by simp -implicitDefEqProofs (disch := omega) only [go_sem])
  simp -implicitDefEqProofs (disch := omega) only [go_sem, p0, p1, p6, p7, p8, l6, hm, hbc, hrc, hsb, g1, hsb3, hl3, not_le_f, false_implies, implies_true, true_and, and_true]
  refine dE_call (refop7_then U (RdR.blk [[.int .i64 (s.slots.getD b 0)]] (ro := false) ?_ ?_ (by simp)) ?_)
  · simp -implicitDefEqProofs (disch := omega) only [go_sem]; rfl
  · simp only [go_sem]; omega
  simp -implicitDefEqProofs (disch := omega) only [go_sem, p0, p1, p6, p7, p8, l6, hm, hbc, hrc, hsb, g1, hsb3, hl3, not_le_f, false_implies, implies_true, true_and, and_true]
  have key : ∀ (H : HN) (φ' : FN), ExtB η.nx η H → φ' 0 = φ 0 → φ' 1 = φ 1 → φ' 6 = φ 6 → φ' 7 = φ 7 → φ' 8 = .int .i64 (pc + 1) → K .normal φ' (H.put bs (.live false (i64s (s.slots.set a ((18446744073709551616 - s.slots.getD b 0) % 18446744073709551616))))) := fun H φ' E' z0 z1 z6 z7 z8 => by
    obtain ⟨q1, q2⟩ := h.slot E' rfl hst hsn a ((18446744073709551616 - s.slots.getD b 0) % 18446744073709551616)
    exact hQ _ _ z0 z1 z6 z7 z8 q1 q2
  rw [i64s_set]
  refine key _ _ ⟨by simp only [at_nx]; omega, fun q hq => ?_⟩ rfl rfl rfl rfl rfl
  have e1 := E3.2 q (by simp only [at_nx]; omega)
  simp -implicitDefEqProofs (disch := omega) only [go_sem] at e1 ⊢
  exact e1
set_option maxHeartbeats 2000000 in
theorem rf_19 (U : Usual nat) {bd : Code} (hbd : findL 30 (fnB Tryz.f25) = some bd) {K : Kont} {η : HN} {T : Nat → Nat} {φ : FN} {mp pc ticks a b c : Nat} {yi ys yo ym : AV} {s : Sm} {z : PV} {p : PD} {inn : List Nat} (I : RfIn η T φ mp pc ticks ⟨19, a, b, c⟩ yi ys yo ym s z p inn) (hQ : RfOut K η T φ pc ⟨19, a, b, c⟩ ys yo ym s p inn) : wpN Tryz.prog (CallN Tryz.prog nat) pl25 bd K φ η := by
  obtain rfl : bd = _ := Option.some.inj (hbd.symm.trans rfl)
  obtain ⟨hp, hf, h, hi, hpc, hi0, ht, hS, hlt, hm, hmn, p0, p1, p6, p7, p8⟩ := I
  obtain ⟨hS, hO, hM, hI⟩ := hS
  obtain ⟨bc, offc, capc, roc, rowc, z6e, hbc, hbcn, hlc, hrc, getlt, g2, g3, g4, b1, b2, b3, b4, b5, b6⟩ := ins_facts hp hf hpc hi0 hlt
  have l6 := rdC_len9 hp.code (by omega)
  have hrc : _ = ([.int .i64 19, .int .i64 a, .int .i64 b, .int .i64 c] : List AV) := hrc
  rw [z6e] at hm l6
  have ht : (targetF p pc a && has p.slots b) = true := ht
  have E : ExtB η.nx η ((η.new (.live false [.int .i64 0, .int .i64 0, .int .i64 0, .int .i64 0])).put η.nx (.live false [.int .i64 19, .int .i64 a, .int .i64 b, .int .i64 c])) := extP (extN (.refl _ _))
  have t2 := (and_lt ht).2
  have u2 := has_lt t2
  obtain ⟨bs, caps, rfl, hsn, hst, hsb⟩ := h.slots.at (i := b) (by omega)
  have g1 := i64s_at (l := s.slots) (i := b) (by omega)
  obtain ⟨q1, q2⟩ := h.same E
  by_cases h0 : s.slots.getD b 0 = 0
  · have e : nextI ⟨19, a, b, c⟩ pc s = a := by unfold nextI; rw [if_pos rfl, if_pos h0]
    simp -implicitDefEqProofs (disch := omega) only [go_sem, p0, p1, p6, p7, p8, l6, hm, hbc, hrc, hsb, g1, not_le_f, false_implies, implies_true, true_and, and_true]
    exact hQ _ _ rfl rfl rfl rfl (by rw [e]; rfl) q1 q2
  · have e : nextI ⟨19, a, b, c⟩ pc s = pc + 1 := by unfold nextI; rw [if_pos rfl, if_neg h0]
    simp -implicitDefEqProofs (disch := omega) only [go_sem, p0, p1, p6, p7, p8, l6, hm, hbc, hrc, hsb, g1, not_le_f, false_implies, implies_true, true_and, and_true]
    exact hQ _ _ rfl rfl rfl rfl (by rw [e]; rfl) q1 q2
set_option maxHeartbeats 2000000 in
theorem rf_20 (U : Usual nat) {bd : Code} (hbd : findL 30 (fnB Tryz.f25) = some bd) {K : Kont} {η : HN} {T : Nat → Nat} {φ : FN} {mp pc ticks a b c : Nat} {yi ys yo ym : AV} {s : Sm} {z : PV} {p : PD} {inn : List Nat} (I : RfIn η T φ mp pc ticks ⟨20, a, b, c⟩ yi ys yo ym s z p inn) (hQ : RfOut K η T φ pc ⟨20, a, b, c⟩ ys yo ym s p inn) : wpN Tryz.prog (CallN Tryz.prog nat) pl25 bd K φ η := by
  obtain rfl : bd = _ := Option.some.inj (hbd.symm.trans rfl)
  obtain ⟨hp, hf, h, hi, hpc, hi0, ht, hS, hlt, hm, hmn, p0, p1, p6, p7, p8⟩ := I
  obtain ⟨hS, hO, hM, hI⟩ := hS
  obtain ⟨bc, offc, capc, roc, rowc, z6e, hbc, hbcn, hlc, hrc, getlt, g2, g3, g4, b1, b2, b3, b4, b5, b6⟩ := ins_facts hp hf hpc hi0 hlt
  have l6 := rdC_len9 hp.code (by omega)
  have hrc : _ = ([.int .i64 20, .int .i64 a, .int .i64 b, .int .i64 c] : List AV) := hrc
  rw [z6e] at hm l6
  have ht : (targetF p pc a) = true := ht
  have E : ExtB η.nx η ((η.new (.live false [.int .i64 0, .int .i64 0, .int .i64 0, .int .i64 0])).put η.nx (.live false [.int .i64 20, .int .i64 a, .int .i64 b, .int .i64 c])) := extP (extN (.refl _ _))
  simp -implicitDefEqProofs (disch := omega) only [go_sem, p0, p1, p6, p7, p8, l6, hm, hbc, hrc, not_le_f, false_implies, implies_true, true_and, and_true]
  obtain ⟨q1, q2⟩ := h.same E
  exact hQ _ _ rfl rfl rfl rfl rfl q1 q2
end Go.Proofs.YtgccjneplchojaaGreatDoor
