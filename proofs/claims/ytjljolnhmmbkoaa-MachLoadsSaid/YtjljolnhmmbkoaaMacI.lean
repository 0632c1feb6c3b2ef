/- What is proved: the document's own machine, as it begins; its state; whether a row fits; operators' names. Conditions: as each theorem says. -/
import Derived.Test.YtjljolnhmmbkoaaMacE
set_option linter.unusedVariables false
set_option linter.unusedSimpArgs false
set_option linter.unusedSectionVars false
namespace Go.Proofs.Ytjljolnhmmbkoaa
open Go.Eng Go.Plain
set_option autoImplicit false
set_option maxRecDepth 100000
variable {nat : ∀ [Deep], Nats}
def fsI (η0 : HN) (a b : AV) (ks ls : List Nat) (m : Nat) (φ : FN) (η : HN) : Prop := η = η0 ∧ ∃ i, m = ks.length - i ∧ i ≤ ks.length ∧ φ 0 = a ∧ φ 1 = b ∧ φ 5 = .int .i64 i ∧ ∀ j, j < i → (!(decide (ks.getD j 0 = 1) && (!decide (ls.getD j 0 = 0) && !decide (ls.getD j 0 = 1)))) = true
set_option maxHeartbeats 1000000 in
theorem fits_call (U : Usual nat) (η : HN) (y z : AV) (ks ls : List Nat) (hy : RdI .i64 η y ks) (hz : RdI .i64 η z ls) (hk : ks.length ≤ 1099511627776) (hl : ls.length ≤ 9223372036854775807) : CallN Try.prog nat 61 [y, z] η (.bool (fitF ks ls)) η := by
 have : ∃ v η', CallN Try.prog nat 61 [y, z] η v η' ∧ v = .bool (fitF ks ls) ∧ η' = η := by
  refine call_of (PT := pl61) Try.func61 rfl (U 61 (by decide)) ok61 rfl ?_
  have l1 := rdI_len hy hk
  have l2 := rdI_len9 hz hl
  unfold fitF
  by_cases he : ks.length = ls.length
  ·rw [decide_eq_true he, Bool.true_and]
   simp -implicitDefEqProofs (disch := omega) only [go_sem, l1, l2, Bool.not_true]
   refine wpN_loop (fsI η y z ks ls) ks.length ⟨rfl, 0, by omega, by omega, rfl, rfl, rfl, fun j hj => absurd hj (Nat.not_lt_zero j)⟩ ?_
   rintro m φ η1 ⟨rfl, i, hm, hi, p0, p1, p5, hall⟩
   by_cases hlt : i < ks.length
   ·obtain ⟨b, off, cap, ro, row, ye, hb, hbn, hr⟩ := hy.at hlt
    obtain ⟨b2, off2, cap2, ro2, row2, ze, hb2, hbn2, hr2⟩ := hz.at (show i < ls.length by omega)
    have more : ∀ c : Bool, (!(decide (ks.getD i 0 = 1) && (!decide (ls.getD i 0 = 0) && !decide (ls.getD i 0 = 1)))) = c → c = true → ∀ j, j < i + 1 → (!(decide (ks.getD j 0 = 1) && (!decide (ls.getD j 0 = 0) && !decide (ls.getD j 0 = 1)))) = true := fun c e1 e2 j hj => by
     by_cases h : j = i
     ·rw [h, e1, e2]
     ·exact hall j (by omega)
    rw [getD_get _ _ hlt, getD_get _ _ (show i < ls.length by omega)] at more
    rw [ye] at p0
    rw [ze] at p1
    by_cases k1 : ks[i] = 1
    ·by_cases k2 : ls[i] = 0
     ·rw [k1] at hr
      rw [k2] at hr2
      simp -implicitDefEqProofs (disch := omega) only [go_sem, p0, p1, p5, l1, l2, hb, hr, hb2, hr2, Bool.not_true, Bool.not_false]
      exact ⟨_, by omega, rfl, i + 1, rfl, by omega, ye ▸ p0, ze ▸ p1, rfl, more true (by simp [k2]) rfl⟩
     by_cases k3 : ls[i] = 1
     ·rw [k1] at hr
      rw [k3] at hr2
      simp -implicitDefEqProofs (disch := omega) only [go_sem, p0, p1, p5, l1, l2, hb, hr, hb2, hr2, Bool.not_true, Bool.not_false]
      exact ⟨_, by omega, rfl, i + 1, rfl, by omega, ye ▸ p0, ze ▸ p1, rfl, more true (by simp [k3]) rfl⟩
     ·rw [k1] at hr
      have bad : ((List.range ks.length).all fun i => !(decide (ks.getD i 0 = 1) && (!decide (ls.getD i 0 = 0) && !decide (ls.getD i 0 = 1)))) = false := by
       cases hq : ((List.range ks.length).all fun i => !(decide (ks.getD i 0 = 1) && (!decide (ls.getD i 0 = 0) && !decide (ls.getD i 0 = 1)))) with
       | false => rfl
       | true =>
        rw [List.all_eq_true] at hq
        have := hq i (List.mem_range.2 hlt)
        rw [getD_get _ _ hlt, getD_get _ _ (show i < ls.length by omega), decide_eq_true k1, decide_eq_false k2, decide_eq_false k3] at this
        cases this
      rw [bad]
      simp -implicitDefEqProofs (disch := omega) only [go_sem, p0, p1, p5, l1, l2, hb, hr, hb2, hr2, Bool.not_true, Bool.not_false]
    ·simp -implicitDefEqProofs (disch := omega) only [go_sem, p0, p1, p5, l1, l2, hb, hr, hb2, hr2, Bool.not_true, Bool.not_false]
     exact ⟨_, by omega, rfl, i + 1, rfl, by omega, ye ▸ p0, ze ▸ p1, rfl, more true (by simp [k1]) rfl⟩
   ·obtain rfl : i = ks.length := by omega
    have good : ((List.range ks.length).all fun i => !(decide (ks.getD i 0 = 1) && (!decide (ls.getD i 0 = 0) && !decide (ls.getD i 0 = 1)))) = true := by
     rw [List.all_eq_true]; intro j hj; exact hall j (List.mem_range.1 hj)
    rw [good]
    simp -implicitDefEqProofs (disch := omega) only [go_sem, p0, p1, p5, l1, l2]
  ·rw [decide_eq_false he, Bool.false_and]
   simp -implicitDefEqProofs (disch := omega) only [go_sem, l1, l2, Bool.not_false]
 obtain ⟨v, η', k, rfl, rfl⟩ := this
 exact k
theorem opNm_at {op : Nat} (h : 6 ≤ op ∧ op ≤ 18) : ([.str 3 7630702, .str 3 6776174, .str 1 43, .str 1 45, .str 1 42, .str 1 47, .str 3 6582125, .str 1 61, .str 1 60, .str 2 15676, .str 3 6581857, .str 2 29295, .str 3 7499640] : List AV)[op - 6]? = some (opStr op) := by
 have : op = 6 ∨ op = 7 ∨ op = 8 ∨ op = 9 ∨ op = 10 ∨ op = 11 ∨ op = 12 ∨ op = 13 ∨ op = 14 ∨ op = 15 ∨ op = 16 ∨ op = 17 ∨ op = 18 := by omega
 rcases this with rfl | rfl | rfl | rfl | rfl | rfl | rfl | rfl | rfl | rfl | rfl | rfl | rfl <;> rfl
theorem ops62_then (U : Usual nat) {η : HN} {op : Nat} {Q : AV → HN → Prop} (hop : 6 ≤ op ∧ op ≤ 18) (h : ∀ η', ExtB η.nx η η' → Q (opStr op) η') : ∃ v η', CallN Try.prog nat 62 [.int .i64 op] η v η' ∧ Q v η' := by
 refine call_of (PT := pl62) Try.func62 rfl (U 62 (by decide)) ok62 rfl ?_
 have hr13 : List.replicate 13 (AV.str 0 0) = [.str 0 0, .str 0 0, .str 0 0, .str 0 0, .str 0 0, .str 0 0, .str 0 0, .str 0 0, .str 0 0, .str 0 0, .str 0 0, .str 0 0, .str 0 0] := rfl
 have hnm := opNm_at hop
 simp -implicitDefEqProofs (disch := omega) only [go_sem, hr13, setsL_step, Nat.reduceMul, Nat.reduceAdd, hnm]
 exact h _ (extN (.refl _ _))
theorem refnew_then (U : Usual nat) {η : HN} {lo hi : Nat} {z : PV} {p : PD} {Q : AV → HN → Prop} (hh : Held lo hi η z p) (hf : Fine p)
  (h : ∀ mp mb η', MachAt lo hi η' mp mb z p (List.replicate p.mems.length 0) 0 → η.nx ≤ mp → η.nx ≤ mb → ExtB η.nx η η' → Q (.ptr mp 0) η') : ∃ v η', CallN Try.prog nat 32 [.agg z.cells] η v η' ∧ Q v η' := by
 refine call_of (PT := pl32) Try.func32 rfl (U 32 (by decide)) ok32 rfl ?_
 have hp := hh.isP
 have hh1 := hh.1
 have l4 := rdI_len hp.mems hf.mems.1
 have b4 := hf.mems.1
 have hc : ¬8 = 0 ∧ p.mems.length * 8 ≤ 140737488355328 := ⟨by decide, by omega⟩
 simp -implicitDefEqProofs (disch := omega) only [go_sem, l4, if_pos hc]
 generalize hZ : (((((η.new (BN.live false z.cells)).at_ (η.nx + 1 + (1 + 1 + 1 + 1))).new (BN.live false (List.replicate p.mems.length (AV.int IntKind.i64 0)))).at_ (η.nx + 1 + (1 + 1 + 1 + 1 + 1 + 1))).new (BN.live false [z.z1, z.z2, z.z3, z.z4, z.z5, z.z6, AV.slice (η.nx + 1 + (1 + 1 + 1 + 1)) 0 p.mems.length (Cp.kn p.mems.length), AV.int IntKind.i64 0])).at_ (η.nx + 1 + (1 + 1 + 1 + 1 + 1 + 1 + 1 + 1)) = Z
 have zn : Z.nx = η.nx + 9 := by rw [← hZ]; rfl
 have z7 : Z.f (η.nx + 7) = .live false [z.z1, z.z2, z.z3, z.z4, z.z5, z.z6, .slice (η.nx + 5) 0 p.mems.length (.kn p.mems.length), .int .i64 0] := by rw [← hZ]; simp -implicitDefEqProofs (disch := omega) only [go_sem]
 have z5 : Z.f (η.nx + 5) = .live false (List.replicate p.mems.length (.int .i64 0)) := by rw [← hZ]; simp -implicitDefEqProofs (disch := omega) only [go_sem]
 have zk : ∀ b, b < η.nx → Z.f b = η.f b := fun b hb => by rw [← hZ]; simp -implicitDefEqProofs (disch := omega) only [go_sem]
 refine h (η.nx + 7) (η.nx + 5) Z ⟨hh.of (by omega) fun b _ hb => zk b (by omega), ⟨by omega, by omega⟩, ⟨by omega, by omega, by omega⟩, ⟨_, z7, .inr ⟨_, by rw [List.length_replicate], by rw [z5]; unfold i64s; rw [List.map_replicate]⟩⟩, List.length_replicate, fun n hn => by have := (List.mem_replicate.1 hn).2; omega, by decide⟩ (by omega) (by omega) ⟨by omega, zk⟩
def RaI (η0 : HN) (t mp : Nat) (ms : List Nat) (m : Nat) (φ : FN) (η : HN) : Prop := ∃ i x, m = ms.length - i ∧ i ≤ ms.length ∧ φ 0 = .ptr mp 0 ∧ φ 3 = x ∧ φ 4 = .int .i64 i ∧ OwnA 1 η0.nx η x (uv t ++ uv ms.length ++ nums (ms.take i)).length (u8s (uv t ++ uv ms.length ++ nums (ms.take i))) ∧ ExtB η0.nx η0 η
set_option maxHeartbeats 1000000 in
theorem refstate_own (U : Usual nat) {η : HN} {lo hi mp mb ticks : Nat} {z : PV} {p : PD} {ms : List Nat} {Q : AV → HN → Prop} (M : MachAt lo hi η mp mb z p ms ticks) (hm : ms.length ≤ 1000000)
  (h : ∀ v η', OwnA 1 η.nx η' v (stateB ticks ms).length (u8s (stateB ticks ms)) → ExtB η.nx η η' → Q v η') : ∃ v η', CallN Try.prog nat 35 [.ptr mp 0] η v η' ∧ Q v η' := by
 refine call_of (PT := pl35) Try.func35 rfl (U 35 (by decide)) ok35 rfl ?_
 obtain ⟨y, c1, c2⟩ := M.cells
 have h2 := M.at_
 have h3 := M.mat
 have hlt := M.lt
 have hc : cvtN .u64 .i64 ticks = ticks := by
  by_cases h9 : ticks < 9223372036854775808
  ·rw [cvt_i64 h9]; exact Nat.mod_eq_of_lt hlt.2
  ·exact cvt_neg h9 hlt.2
 simp -implicitDefEqProofs (disch := omega) only [go_sem, c1, hc]
 refine thenN_call (putU_then U (l := []) (.inl ⟨rfl, rfl, .inl rfl⟩) (by simp) hlt.2 fun v1 η1 o1 E1 => ?_)
 rw [List.nil_append] at o1
 have x1 := (E1.2 _ h2.2).trans c1
 have ly := rdI_len (MemAt.rd c2 h3.2.1) (by omega)
 simp -implicitDefEqProofs (disch := omega) only [go_sem, x1, ly]
 have u1 := uv_len ticks
 have r1 : RdA 1 η1 v1 (uv ticks).length (u8s (uv ticks)) := by
  have := o1.rd
  rw [List.length_nil, Nat.zero_add] at this
  exact this
 refine thenN_call (putU_then U (l := uv ticks) r1 (by omega) (by omega) fun v2 η2 o2 E2 => ?_)
 have F2 := extT E1 E2
 simp -implicitDefEqProofs (disch := omega) only [go_sem]
 have u2 := uv_len ms.length
 have r2 : OwnA 1 η.nx η2 v2 (uv ticks ++ uv ms.length ++ nums (ms.take 0)).length (u8s (uv ticks ++ uv ms.length ++ nums (ms.take 0))) := by
  have := o2.mono E1.1
  rw [← List.length_append] at this
  rw [List.take_zero, show nums [] = [] from rfl, List.append_nil]
  exact this
 refine wpN_loop (RaI η ticks mp ms) ms.length ⟨0, v2, rfl, Nat.zero_le _, rfl, rfl, rfl, r2, F2⟩ ?_
 rintro m φ η3 ⟨i, x, hmm, hi, p0, p3, p4, r3, F3⟩
 have x3 := (F3.2 _ h2.2).trans c1
 by_cases hlt2 : i < ms.length
 ·have c3 : MemAt mb η3 y ms := by
   rcases c2 with c2 | ⟨cap, e1, e2⟩
   ·exact .inl c2
   ·exact .inr ⟨cap, e1, (F3.2 _ h3.2.1).trans e2⟩
  have n3 := F3.1
  obtain ⟨b, off, cap, ro, row, ye, hb, hbn, hr⟩ := (MemAt.rd c3 (by omega)).at hlt2
  rw [ye] at x3
  simp -implicitDefEqProofs (disch := omega) only [go_sem, p0, p3, p4, x3, hb, hr]
  have u3 := nums_len (ms.take i)
  rw [List.length_take] at u3
  have u4 := uv_len (zz ms[i])
  refine thenN_call (putI_then U (l := uv ticks ++ uv ms.length ++ nums (ms.take i)) r3.rd (by rw [List.length_append, List.length_append]; omega) (hlt.1 _ (List.getElem_mem hlt2)) fun v4 η4 o4 E4 => ?_)
  simp -implicitDefEqProofs (disch := omega) only [go_sem, p0, p4]
  refine ⟨ms.length - (i + 1), by omega, i + 1, _, rfl, by omega, p0, rfl, rfl, ?_, extT F3 E4⟩
  have := o4.mono F3.1
  rw [← List.length_append, List.append_assoc, ← nums_snoc _ _ hlt2] at this
  exact this
 ·obtain rfl : i = ms.length := by omega
  simp -implicitDefEqProofs (disch := omega) only [go_sem, p0, p3, p4, x3, ly]
  rw [List.take_length] at r3
  exact h _ _ r3 F3
theorem refstate_then (U : Usual nat) {η : HN} {lo hi mp mb ticks : Nat} {z : PV} {p : PD} {ms : List Nat} {Q : AV → HN → Prop} (M : MachAt lo hi η mp mb z p ms ticks) (hm : ms.length ≤ 1000000)
  (h : ∀ v η', RdA 1 η' v (stateB ticks ms).length (u8s (stateB ticks ms)) → ExtB η.nx η η' → Q v η') : ∃ v η', CallN Try.prog nat 35 [.ptr mp 0] η v η' ∧ Q v η' :=
 refstate_own U M hm fun v η' o E => h v η' o.rd E
end Go.Proofs.Ytjljolnhmmbkoaa
