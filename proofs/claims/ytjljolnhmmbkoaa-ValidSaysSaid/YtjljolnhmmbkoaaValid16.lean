/- What is proved: what is found on all ways. Conditions: none. -/
import Derived.Test.YtjljolnhmmbkoaaValid15b
set_option linter.unusedVariables false
set_option linter.unusedSimpArgs false
set_option linter.unusedSectionVars false
namespace Go.Proofs.Ytjljolnhmmbkoaa
open Go.Eng Go.Plain
set_option autoImplicit false
set_option maxRecDepth 100000
variable {nat : ∀ [Deep], Nats}
theorem drop3 {row : List AV} {i : Nat} {x y z : AV} (h0 : row[i]? = some x) (h1 : row[i + 1]? = some y) (h2 : row[i + 2]? = some z) : (row.drop i).take 3 = [x, y, z] := by
  have l2 := (List.getElem?_eq_some_iff.1 h2).1
  rw [List.drop_eq_getElem_cons (by omega), List.drop_eq_getElem_cons (by omega), List.drop_eq_getElem_cons (by omega)]
  rw [List.getElem?_eq_getElem (by omega)] at h0 h1 h2
  cases h0; cases h1; cases h2
  rfl
theorem room_call (U : Usual nat) (η : HN) (n : Nat) (hn : n ≤ 1000000) : CallN Try.prog nat 84 [.int .i64 n] η (.slice η.nx 0 ((n + 63) / 64) (.kn ((n + 63) / 64))) (η.new (.live false (List.replicate ((n + 63) / 64) (.int .u64 0)))) := by
  obtain ⟨v, η', k, rfl, rfl⟩ := room_spec (U 84 (by decide)) η n hn
  exact k
theorem repL3_len {n : Nat} {x y z : AV} : (repL n [x, y, z]).length = n * 3 := by
  unfold repL
  induction n with
  | zero => rfl
  | succ n ih => rw [List.replicate_succ, List.flatten_cons, List.length_append, ih]; show 3 + _ = _; omega
theorem repL3_at {x y z : AV} : ∀ {n q : Nat}, q < n → (repL n [x, y, z])[q * 3]? = some x
  | n + 1, 0, _ => by unfold repL; rw [List.replicate_succ, List.flatten_cons]; rfl
  | n + 1, q + 1, h => by
    have := repL3_at (x := x) (y := y) (z := z) (n := n) (q := q) (by omega)
    unfold repL at this ⊢
    rw [List.replicate_succ, List.flatten_cons, List.getElem?_append_right (by show 3 ≤ _; omega)]
    show _[(q + 1) * 3 - 3]? = _
    rw [show (q + 1) * 3 - 3 = q * 3 by omega]
    exact this
def foI (η0 : HN) (c r3 bl n : Nat) (z : PV) (p : PD) (m : Nat) (φ : FN) (η : HN) : Prop := ∃ pc T st, m = n - pc ∧ pc ≤ n ∧ φ 0 = .ptr c 0 ∧ φ 3 = .ptr r3 0 ∧ φ 4 = .int .i64 n ∧ φ 5 = .slice bl 0 (n + 1) (.kn (n + 1)) ∧ φ 40 = z.z6 ∧ φ 41 = .int .i64 n ∧ φ 42 = .int .i64 pc ∧
  Places η T η0.nx bl n pc st p.slots.length p.outs.length ∧ (∀ b, b < η0.nx → T b = 0) ∧ T r3 = 0 ∧ ExtB η0.nx η0 η ∧ η.f r3 = .live false [.bool false, .nilslice, .nilslice] ∧ η0.nx ≤ r3 ∧ r3 < η.nx ∧ r3 ≠ bl ∧ followF (p.code.drop pc) pc st = followF p.code 0 (startF p)
/-- what it answers -/
def foQ (η0 : HN) (p : PD) (v : AV) (η : HN) : Prop := ExtB η0.nx η0 η ∧ match followF p.code 0 (startF p) with
  | .inl pc => v = .tup [.int .i64 pc, .agg [.bool false, .nilslice, .nilslice]] ∧ pc ≤ p.code.length
  | .inr none => ∃ x y, v = .tup [.int .i64 18446744073709551615, .agg [.bool false, x, y]]
  | .inr (some d) => ∃ x y w, v = .tup [.int .i64 18446744073709551615, .agg [.bool true, x, y]] ∧ RdI .u64 η y w ∧ SetW w d.2 ∧ d.2.length = p.outs.length
set_option maxHeartbeats 2000000 in
theorem follow_spec (U : Usual nat) (η : HN) (c : Nat) (ro : Bool) (z : PV) (p : PD) (hc : η.f c = .live ro z.cells) (hcn : c < η.nx) (hp : IsP η z p) (hf : Fine p) (hpa : partsF p = true) (hth : firstF (thereF p) p.code 0 = none) :
    ∃ v η', CallN Try.prog nat 44 [.ptr c 0] η v η' ∧ foQ η p v η' := by
  refine call_of (PT := pl44) Try.func44 rfl (U 44 (by decide)) ok44 rfl ?_
  have l2 := rdI_len hp.outs hf.outs.1
  have l3 := rdI_len hp.slots hf.slots.1
  have l6 := rdC_len hp.code hf.code.1
  have bounds : p.slots.length ≤ 1024 ∧ p.outs.length ≤ 64 ∧ p.code.length ≤ 8192 := by
    unfold partsF at hpa
    simp only [Bool.and_eq_true, decide_eq_true_eq] at hpa
    omega
  obtain ⟨m3, m2, m6⟩ := bounds
  have hcap : ¬56 = 0 ∧ (p.code.length + 1) * 56 ≤ 140737488355328 := ⟨by decide, by omega⟩
  obtain ⟨row0, hrow0⟩ : ∃ r, r = repL (p.code.length + 1) [AV.bool false, AV.nilslice, AV.nilslice] := ⟨_, rfl⟩
  have hrl : row0.length = (p.code.length + 1) * 3 := by rw [hrow0, repL3_len]
  have hrg : ∀ q, q ≤ p.code.length → row0[q * 3]? = some (.bool false) := fun q hq => by rw [hrow0]; exact repL3_at (by omega)
  simp -implicitDefEqProofs (disch := omega) only [go_sem, hc, l2, l3, l6, if_pos hcap, ← hrow0]
  have E1 : ExtB η.nx η ((η.new (.live false [.bool false, .nilslice, .nilslice])).new (.live false row0)) := extN (extN (.refl _ _))
  have hnx1 : ((η.new (.live false [.bool false, .nilslice, .nilslice])).new (.live false row0)).nx = η.nx + 2 := rfl
  have hr3 : ((η.new (.live false [.bool false, .nilslice, .nilslice])).new (.live false row0)).f η.nx = .live false [.bool false, .nilslice, .nilslice] := by show (if η.nx = η.nx + 1 then _ else if η.nx = η.nx then _ else _) = _; rw [if_neg (by omega), if_pos rfl]
  have hbl : ((η.new (.live false [.bool false, .nilslice, .nilslice])).new (.live false row0)).f (η.nx + 1) = .live false row0 := by show (if η.nx + 1 = η.nx + 1 then _ else _) = _; rw [if_pos rfl]
  generalize (η.new (.live false [.bool false, .nilslice, .nilslice])).new (.live false row0) = η1 at *
  refine dE_call ⟨_, _, room_call U _ _ (by omega), ?_⟩
  have E2 : ExtB η.nx η (η1.new (.live false (List.replicate ((p.slots.length + 63) / 64) (.int .u64 0)))) := extN E1
  have hc1 := (E1.2 _ hcn).trans hc
  simp -implicitDefEqProofs (disch := omega) only [go_sem, hc, l2, l3, hc1]
  refine dE_call ⟨_, _, room_call U _ _ (by omega), ?_⟩
  have hrw : ∀ k : Nat, List.replicate k (AV.int .u64 0) = u64s (List.replicate k 0) := fun k => by unfold u64s; rw [List.map_replicate]
  have E3 : ExtB η.nx η ((η1.new (.live false (u64s (List.replicate ((p.slots.length + 63) / 64) 0)))).new (.live false (u64s (List.replicate ((p.outs.length + 63) / 64) 0)))) := extN (extN E1)
  have hnx3 : ((η1.new (.live false (u64s (List.replicate ((p.slots.length + 63) / 64) 0)))).new (.live false (u64s (List.replicate ((p.outs.length + 63) / 64) 0)))).nx = η1.nx + 2 := rfl
  have w1 : ((η1.new (.live false (u64s (List.replicate ((p.slots.length + 63) / 64) 0)))).new (.live false (u64s (List.replicate ((p.outs.length + 63) / 64) 0)))).f η1.nx = .live false (u64s (List.replicate ((p.slots.length + 63) / 64) 0)) := by
    show (if η1.nx = η1.nx + 1 then _ else if η1.nx = η1.nx then _ else _) = _; rw [if_neg (by omega), if_pos rfl]
  have w2 : ((η1.new (.live false (u64s (List.replicate ((p.slots.length + 63) / 64) 0)))).new (.live false (u64s (List.replicate ((p.outs.length + 63) / 64) 0)))).f (η1.nx + 1) = .live false (u64s (List.replicate ((p.outs.length + 63) / 64) 0)) := by
    show (if η1.nx + 1 = η1.nx + 1 then _ else _) = _; rw [if_pos rfl]
  have o1 : ∀ b, b < η.nx + 2 → ((η1.new (.live false (u64s (List.replicate ((p.slots.length + 63) / 64) 0)))).new (.live false (u64s (List.replicate ((p.outs.length + 63) / 64) 0)))).f b = η1.f b := fun b hb => by
    show (if b = η1.nx + 1 then _ else if b = η1.nx then _ else _) = _; rw [if_neg (by omega), if_neg (by omega)]
  simp -implicitDefEqProofs (disch := omega) only [go_sem, hc, l2, l3, hc1, hrw]
  generalize (η1.new (.live false (u64s (List.replicate ((p.slots.length + 63) / 64) 0)))).new (.live false (u64s (List.replicate ((p.outs.length + 63) / 64) 0))) = η3 at *
  have P0 : Places η3 (fun b => if b = η1.nx then 2 * (p.code.length + 1) + 1 else if b = η1.nx + 1 then 2 * (p.code.length + 1) + 2 else 0) η.nx (η.nx + 1) p.code.length 0 (fun _ => none) p.slots.length p.outs.length :=
    ⟨⟨row0, (o1 _ (by omega)).trans hbl, hrl, fun q _ hq => hrg q hq⟩, fun q d _ h => (nomatch h), ⟨by omega, by omega, by rw [if_neg (by omega), if_neg (by omega)]⟩, fun b hb => by rw [if_neg (by omega), if_neg (by omega)]⟩
  have D0 : DAt η3 (fun b => if b = η1.nx then 2 * (p.code.length + 1) + 1 else if b = η1.nx + 1 then 2 * (p.code.length + 1) + 2 else 0) η.nx (p.code.length + 1) (.slice η1.nx 0 ((p.slots.length + 63) / 64) (.kn ((p.slots.length + 63) / 64))) (.slice (η1.nx + 1) 0 ((p.outs.length + 63) / 64) (.kn ((p.outs.length + 63) / 64))) (List.replicate p.slots.length false, List.replicate p.outs.length false) :=
    ⟨_, _, setW_room _, setW_room _, ⟨_, _, by rw [List.length_replicate], by omega, by omega, if_pos rfl, w1⟩, ⟨_, _, by rw [List.length_replicate], by omega, by omega, by show (if η1.nx + 1 = η1.nx then _ else if η1.nx + 1 = η1.nx + 1 then _ else _) = _; rw [if_neg (by omega), if_pos rfl], w2⟩⟩
  obtain ⟨v4, η4, k4, T4, P4, _, K4⟩ := meet_places U P0 D0 (by simp) (show p.code.length + 1 ≠ 0 by omega) (Nat.le_refl 0) (Nat.zero_le _) (by omega) (by omega)
  rw [show (0 : Nat) * 3 = 0 from rfl] at k4
  refine dE_call ⟨_, _, k4, ?_⟩
  have E4 : ExtB η.nx η η4 := ⟨by have := K4.nx; have := E3.1; omega, fun b hb => (K4.keep b (by omega) (by show (if b = η1.nx then _ else if b = η1.nx + 1 then _ else _) = _; rw [if_neg (by omega), if_neg (by omega)]) (by omega)).trans (E3.2 b hb)⟩
  have hr4 : η4.f η.nx = .live false [.bool false, .nilslice, .nilslice] := (K4.keep η.nx (by omega) (by show (if η.nx = η1.nx then _ else if η.nx = η1.nx + 1 then _ else _) = _; rw [if_neg (by omega), if_neg (by omega)]) (by omega)).trans ((o1 _ (by omega)).trans hr3)
  have hT4 : ∀ b, b < η.nx + 2 → T4 b = 0 := fun b hb => (K4.tag b (by omega)).trans (by show (if b = η1.nx then _ else if b = η1.nx + 1 then _ else _) = _; rw [if_neg (by omega), if_neg (by omega)])
  have hc4 := (E4.2 _ hcn).trans hc
  have n4 := K4.nx
  have hc3 := (E3.2 _ hcn).trans hc
  simp -implicitDefEqProofs (disch := omega) only [go_sem, hc, hc1, hc3, hc4, l2, l3, l6, implies_true, true_and]
  refine wpN_loop (foI η c η.nx (η.nx + 1) p.code.length z p) p.code.length ⟨0, T4, startF p, by omega, Nat.zero_le _, rfl, rfl, rfl, rfl, rfl, rfl, rfl, P4, fun b hb => hT4 b (by omega), hT4 _ (by omega), E4, hr4, Nat.le_refl _, by omega, by omega, rfl⟩ ?_
  clear k4 K4 P4 hT4 E4 hr4 hc4 n4 P0 D0 w1 w2 o1 hc3 hc1 E3 E2 hnx3 hrw hr3 hbl E1 hnx1 hrl hrg hrow0
  rintro m φ η5 ⟨pc, T, st, hm, hpc, p0, p3, p4, p5, p40, p41, p42, P, hTl, hT3, E5, hr5, hB, hr5n, hne, hfol⟩
  have hc5 := (E5.2 _ hcn).trans hc
  have q5 := hp.ext E5
  by_cases hlt : pc < p.code.length
  · obtain ⟨bc, offc, capc, roc, rowc, z6e, hbc, hbcn, hlc, hrc⟩ := RdR.at (i := pc) q5.code (by simpa using hlt)
    simp only [List.length_map, List.getElem_map] at z6e hrc
    have hsz : (Ins.cells p.code[pc]).length = 4 := rfl
    obtain ⟨row5, hbl5, hrl5, hpl5⟩ := P.row
    have hbln := P.bl
    have hpc5 := hpl5 pc (Nat.le_refl _) hpc
    have hlen5 : pc * 3 + 3 ≤ row5.length := by omega
    have hdrop := List.drop_eq_getElem_cons hlt
    cases hst : st pc with
    | none =>
      rw [hst] at hpc5
      have hd : ∃ x y, (row5.drop (pc * 3)).take 3 = [.bool false, x, y] := ⟨_, _, drop3 hpc5 (List.getElem?_eq_getElem (by omega)) (List.getElem?_eq_getElem (by omega))⟩
      obtain ⟨x, y, hd⟩ := hd
      simp -implicitDefEqProofs (disch := omega) only [go_sem, p0, p3, p4, p5, p40, p41, p42, z6e, hbc, hrc, hbl5, hd]
      have E6 : ExtB η5.nx η5 ((((η5.new (.live false [.int .i64 0, .int .i64 0, .int .i64 0, .int .i64 0])).put η5.nx (.live false p.code[pc].cells)).new (.live false [.bool false, .nilslice, .nilslice])).put (η5.nx + 1) (.live false [.bool false, x, y])) := extP (extN (extP (extN (.refl _ _))))
      refine ⟨p.code.length - (pc + 1), by omega, pc + 1, T, st, rfl, by omega, p0, p3, p4, p5, p40, p41, rfl, (P.ext E6).up, hTl, hT3, extT E5 E6, (E6.2 _ (by omega)).trans hr5, Nat.le_refl _, by have := E6.1; omega, by omega, ?_⟩
      rw [← hfol, hdrop, followF, hst]
    | some d =>
      rw [hst] at hpc5
      obtain ⟨g1, v1, v2, g2, g3, hD⟩ := hpc5
      have hd := drop3 g1 g2 g3
      simp -implicitDefEqProofs (disch := omega) only [go_sem, p0, p3, p4, p5, p40, p41, p42, z6e, hbc, hrc, hbl5, hd]
      have hi := first_none hth pc hlt
      rw [Nat.zero_add] at hi
      obtain ⟨f1, f2, f3, f4, f5⟩ := there_facts hi
      have fb := hf.code.2 _ (List.getElem_mem hlt)
      clear hi hrc hbc
      rw [hdrop, followF, hst] at hfol
      generalize p.code[pc] = i at *
      have E6 : ExtB η5.nx η5 ((((η5.new (.live false [.int .i64 0, .int .i64 0, .int .i64 0, .int .i64 0])).put η5.nx (.live false i.cells)).new (.live false [.bool false, .nilslice, .nilslice])).put (η5.nx + 1) (.live false [.bool true, v1, v2])) := extP (extN (extP (extN (.refl _ _))))
      have hn6 : ((((η5.new (.live false [.int .i64 0, .int .i64 0, .int .i64 0, .int .i64 0])).put η5.nx (.live false i.cells)).new (.live false [.bool false, .nilslice, .nilslice])).put (η5.nx + 1) (.live false [.bool true, v1, v2])).nx = η5.nx + 2 := rfl
      have t7 : ((((η5.new (.live false [.int .i64 0, .int .i64 0, .int .i64 0, .int .i64 0])).put η5.nx (.live false i.cells)).new (.live false [.bool false, .nilslice, .nilslice])).put (η5.nx + 1) (.live false [.bool true, v1, v2])).f η5.nx = .live false i.cells := by
        show (if η5.nx = η5.nx + 1 then _ else if η5.nx = η5.nx + 1 then _ else if η5.nx = η5.nx then _ else _) = _; rw [if_neg (by omega), if_neg (by omega), if_pos rfl]
      have t8 : ((((η5.new (.live false [.int .i64 0, .int .i64 0, .int .i64 0, .int .i64 0])).put η5.nx (.live false i.cells)).new (.live false [.bool false, .nilslice, .nilslice])).put (η5.nx + 1) (.live false [.bool true, v1, v2])).f (η5.nx + 1) = .live false [.bool true, v1, v2] := by
        show (if η5.nx + 1 = η5.nx + 1 then _ else _) = _; rw [if_pos rfl]
      generalize (((η5.new (.live false [.int .i64 0, .int .i64 0, .int .i64 0, .int .i64 0])).put η5.nx (.live false i.cells)).new (.live false [.bool false, .nilslice, .nilslice])).put (η5.nx + 1) (.live false [.bool true, v1, v2]) = η6 at *
      have P6 := (P.ext E6).up
      have D6 := hD.of (T' := T) E6.1 (fun _ _ => rfl) fun b hb _ => E6.2 b hb
      have ld := P.len pc d (Nat.le_refl _) hst
      obtain ⟨op, a, b, c3⟩ := i
      have hcs : Ins.cells ⟨op, a, b, c3⟩ = [.int .i64 op, .int .i64 a, .int .i64 b, .int .i64 c3] := rfl
      dsimp only at f1 f3 f4 f5 fb
      obtain ⟨fb0, fb1, fb2, fb3⟩ := fb
      rw [hcs] at t7 ⊢
      obtain ⟨v7, η7, k7, r7, E7⟩ := reads_spec (U 85 (by decide)) (U 79 (by decide)) η6 op a b c3 f1
      refine thenN_call ⟨_, _, k7, ?_⟩
      have E57 := extT E6 E7
      have t77 := (E7.2 _ (by omega)).trans t7
      have t87 := (E7.2 _ (by omega)).trans t8
      have P7 := P6.ext E7
      have D7 := D6.of (T' := T) E7.1 (fun _ _ => rfl) fun b hb _ => E7.2 b hb
      have n7 := E7.1
      simp -implicitDefEqProofs (disch := omega) only [go_sem]
      obtain ⟨v8, η8, k8, rfl, e8⟩ := contains2_spec U η7 v7 (readsF ⟨op, a, b, c3⟩) (fun n => !d.1.getD n false) 86 [.ptr (η5.nx + 1) 0] r7 (readsF_len _) fun n hn => by
        obtain ⟨w1, w2, s1, s2, s3, s4⟩ := D7
        exact nothas_call U η7 (η5.nx + 1) _ _ _ w1 d.1 n t87 s3.rd s1 (by rw [ld.1]; exact f2 n hn) (by rw [ld.1]; omega)
      rw [e8] at k8
      refine thenN_call ⟨_, _, k8, ?_⟩
      have hall : ((readsF ⟨op, a, b, c3⟩).any fun n => !d.1.getD n false) = !(readsF ⟨op, a, b, c3⟩).all fun n => d.1.getD n false := by rw [List.not_all_eq_any_not]
      rw [hall]
      have hr7 := ((E57.2 _ (by omega)).trans hr5)
      dsimp only at hfol
      cases hq : (readsF ⟨op, a, b, c3⟩).all (fun n => d.1.getD n false) with
      | false =>
        rw [hq, if_neg (by decide)] at hfol
        have hr70 : η7.f η.nx = .live false [.bool false, .nilslice, .nilslice] := hr7
        simp -implicitDefEqProofs (disch := omega) only [go_sem, Bool.not_false, p3, hr70]
        refine ⟨(extT E5 E57).trans (.put (Nat.le_refl _)), ?_⟩
        rw [← hfol]
        exact ⟨rfl, hpc⟩
      | true =>
      rw [hq, if_pos rfl] at hfol
      simp -implicitDefEqProofs (disch := omega) only [go_sem, Bool.not_true, t77]
      obtain ⟨v9, η9, k9, P9, D9, K9⟩ := does_places (i := ⟨op, a, b, c3⟩) U P7 D7 ld (Nat.lt_succ_self pc) t87 (by omega) f1 f3 f4 (by omega) (by omega)
      rw [hcs] at k9
      refine thenN_call ⟨_, _, k9, ?_⟩
      have T7 : T (η5.nx) = 0 := P.fresh _ (Nat.le_refl _)
      have T8 : T (η5.nx + 1) = 0 := P.fresh _ (by omega)
      have n9 := K9.nx
      have n5 := E5.1
      have t79 := (K9.keep _ (by omega) T7 (by omega)).trans t77
      have t89 := (K9.keep _ (by omega) T8 (by omega)).trans t87
      have ld9 : (doesF ⟨op, a, b, c3⟩ d).1.length = p.slots.length ∧ (doesF ⟨op, a, b, c3⟩ d).2.length = p.outs.length := by
        unfold doesF; split
        · simp; exact ld
        · split
          · exact ld
          · simp; exact ld
      have K79 : Kp T (η.nx + 1) η5 η9 T := (Kp.ofExt E57).trans K9
      clear k7 k8 k9 hall hq hd g1 g2 g3 hD D6 P6 D7 P7 E6 E7 t7 t8 t77 t87 hcs
      generalize hd' : doesF ⟨op, a, b, c3⟩ d = d' at *
      have T7c := t79
      have T8c := t89
      have K9 : Kp T (η.nx + 1) η9 η9 T := ⟨Nat.le_refl _, fun _ _ => rfl, fun _ _ _ _ => rfl⟩
      have n79 := K79.nx
      by_cases q20 : op = 20
      · subst q20
        obtain ⟨f5a, f5b⟩ := f5 (.inr rfl)
        have d0 : decide (20 = 19) = false := rfl
        have d1 : decide (20 = 20) = true := rfl
        simp -implicitDefEqProofs (disch := omega) only [go_sem, p0, p3, p4, p5, p40, p41, p42, t79, t89, Bool.false_and, okO, d0, d1]
        obtain ⟨v10, η10, k10, T10, P10, D10, K10⟩ := meet_places U P9 D9 ld9 (show pc ≠ a by omega) (show pc + 1 ≤ a by omega) (show a ≤ p.code.length by omega) (by omega) (by omega)
        refine dE_call ⟨_, _, k10, ?_⟩
        have K10' := K9.trans K10
        have t7_10 := (K10'.keep _ (by have := K79.nx; omega) T7 (by omega)).trans T7c
        have t8_10 := (K10'.keep _ (by have := K79.nx; omega) T8 (by omega)).trans T8c
        have hgo : goF ⟨20, a, b, c3⟩ pc st d' = setF st a (meetF (st a) d') := rfl
        rw [hgo] at hfol
        have KK := K79.trans K10'
        obtain ⟨row9, r91, r92, r93⟩ := P10.row
        have pb := P10.bl
        have h9 : pc * 3 + 3 ≤ row9.length := by omega
        simp -implicitDefEqProofs (disch := omega) only [go_sem, p0, p3, p4, p5, p40, p41, p42, t7_10, t8_10, d1, Bool.not_true, r91, Bool.false_and, okO, implies_true, true_and, and_true]
        refine ⟨p.code.length - (pc + 1), by omega, pc + 1, T10, _, rfl, by omega, p0, p3, p4, p5, p40, p41, rfl, (P10.behind r91 (row' := row9.set (pc * 3 + 1) .nilslice) (by simp) (fun i hi => List.getElem?_set_ne (by omega))).behind (row := row9.set (pc * 3 + 1) .nilslice) (by show (if _ = _ then _ else _) = _; rw [if_pos rfl]) (row' := (row9.set (pc * 3 + 1) .nilslice).set (pc * 3 + 2) .nilslice) (by simp) (fun i hi => List.getElem?_set_ne (by omega)), ?_, ?_, ?_, ?_, Nat.le_refl _, ?_, by omega, hfol⟩
        · exact fun x hx => (KK.tag x (by omega)).trans (hTl x hx)
        · exact (KK.tag _ (by omega)).trans hT3
        · refine ExtB.trans (ExtB.trans (η' := η10) ⟨by have := KK.nx; omega, fun x hx => (KK.keep x (by omega) (hTl x hx) (by omega)).trans (E5.2 x hx)⟩ (.put (c := η.nx + 1) (by omega))) (.put (by omega))
        · show (if η.nx = η.nx + 1 then _ else if η.nx = η.nx + 1 then _ else _) = _
          rw [if_neg (by omega), if_neg (by omega)]
          exact (KK.keep _ (by omega) hT3 (by omega)).trans hr5
        · have := KK.nx
          show η.nx < η10.nx
          omega
      by_cases q19 : op = 19
      · subst q19
        obtain ⟨f5a, f5b⟩ := f5 (.inl rfl)
        have d0 : decide (19 = 19) = true := rfl
        have d1 : decide (19 = 20) = false := rfl
        simp -implicitDefEqProofs (disch := omega) only [go_sem, p0, p3, p4, p5, p40, p41, p42, t79, t89, Bool.false_and, okO, d0, d1]
        obtain ⟨v10, η10, k10, T10, P10, D10, K10⟩ := meet_places U P9 D9 ld9 (show pc ≠ a by omega) (show pc + 1 ≤ a by omega) (show a ≤ p.code.length by omega) (by omega) (by omega)
        refine dE_call ⟨_, _, k10, ?_⟩
        have K10' := K9.trans K10
        have t7_10 := (K10'.keep _ (by have := K79.nx; omega) T7 (by omega)).trans T7c
        have t8_10 := (K10'.keep _ (by have := K79.nx; omega) T8 (by omega)).trans T8c
        simp -implicitDefEqProofs (disch := omega) only [go_sem, p0, p3, p4, p5, p40, p41, p42, t7_10, t8_10, Bool.not_false, Bool.false_and, okO, d0, d1]
        obtain ⟨v11, η11, k11, T11, P11, D11, K11⟩ := meet_places U P10 D10 ld9 (show pc ≠ (pc + 1) by omega) (show pc + 1 ≤ (pc + 1) by omega) (show (pc + 1) ≤ p.code.length by omega) (by omega) (by omega)
        refine dE_call ⟨_, _, k11, ?_⟩
        have K11' := K10'.trans K11
        have t7_11 := (K11'.keep _ (by have := K79.nx; omega) T7 (by omega)).trans T7c
        have t8_11 := (K11'.keep _ (by have := K79.nx; omega) T8 (by omega)).trans T8c
        have hgo : goF ⟨19, a, b, c3⟩ pc st d' = setF (setF st a (meetF (st a) d')) (pc + 1) (meetF (setF st a (meetF (st a) d') (pc + 1)) d') := rfl
        rw [hgo] at hfol
        have KK := K79.trans K11'
        obtain ⟨row9, r91, r92, r93⟩ := P11.row
        have pb := P11.bl
        have h9 : pc * 3 + 3 ≤ row9.length := by omega
        simp -implicitDefEqProofs (disch := omega) only [go_sem, p0, p3, p4, p5, p40, p41, p42, t7_11, t8_11, d1, Bool.not_true, r91, Bool.false_and, okO, implies_true, true_and, and_true]
        refine ⟨p.code.length - (pc + 1), by omega, pc + 1, T11, _, rfl, by omega, p0, p3, p4, p5, p40, p41, rfl, (P11.behind r91 (row' := row9.set (pc * 3 + 1) .nilslice) (by simp) (fun i hi => List.getElem?_set_ne (by omega))).behind (row := row9.set (pc * 3 + 1) .nilslice) (by show (if _ = _ then _ else _) = _; rw [if_pos rfl]) (row' := (row9.set (pc * 3 + 1) .nilslice).set (pc * 3 + 2) .nilslice) (by simp) (fun i hi => List.getElem?_set_ne (by omega)), ?_, ?_, ?_, ?_, Nat.le_refl _, ?_, by omega, hfol⟩
        · exact fun x hx => (KK.tag x (by omega)).trans (hTl x hx)
        · exact (KK.tag _ (by omega)).trans hT3
        · refine ExtB.trans (ExtB.trans (η' := η11) ⟨by have := KK.nx; omega, fun x hx => (KK.keep x (by omega) (hTl x hx) (by omega)).trans (E5.2 x hx)⟩ (.put (c := η.nx + 1) (by omega))) (.put (by omega))
        · show (if η.nx = η.nx + 1 then _ else if η.nx = η.nx + 1 then _ else _) = _
          rw [if_neg (by omega), if_neg (by omega)]
          exact (KK.keep _ (by omega) hT3 (by omega)).trans hr5
        · have := KK.nx
          show η.nx < η11.nx
          omega
      · have d0 : decide (op = 19) = false := decide_eq_false q19
        have d1 : decide (op = 20) = false := decide_eq_false q20
        simp -implicitDefEqProofs (disch := omega) only [go_sem, p0, p3, p4, p5, p40, p41, p42, t79, t89, Bool.not_false, Bool.false_and, okO, d0, d1]
        obtain ⟨v10, η10, k10, T10, P10, D10, K10⟩ := meet_places U P9 D9 ld9 (show pc ≠ (pc + 1) by omega) (show pc + 1 ≤ (pc + 1) by omega) (show (pc + 1) ≤ p.code.length by omega) (by omega) (by omega)
        refine dE_call ⟨_, _, k10, ?_⟩
        have K10' := K9.trans K10
        have t7_10 := (K10'.keep _ (by have := K79.nx; omega) T7 (by omega)).trans T7c
        have t8_10 := (K10'.keep _ (by have := K79.nx; omega) T8 (by omega)).trans T8c
        have hgo : goF ⟨op, a, b, c3⟩ pc st d' = setF st (pc + 1) (meetF (st (pc + 1)) d') := by unfold goF; simp [q19, q20]
        rw [hgo] at hfol
        have KK := K79.trans K10'
        obtain ⟨row9, r91, r92, r93⟩ := P10.row
        have pb := P10.bl
        have h9 : pc * 3 + 3 ≤ row9.length := by omega
        simp -implicitDefEqProofs (disch := omega) only [go_sem, p0, p3, p4, p5, p40, p41, p42, t7_10, t8_10, d1, Bool.not_true, r91, Bool.false_and, okO, implies_true, true_and, and_true]
        refine ⟨p.code.length - (pc + 1), by omega, pc + 1, T10, _, rfl, by omega, p0, p3, p4, p5, p40, p41, rfl, (P10.behind r91 (row' := row9.set (pc * 3 + 1) .nilslice) (by simp) (fun i hi => List.getElem?_set_ne (by omega))).behind (row := row9.set (pc * 3 + 1) .nilslice) (by show (if _ = _ then _ else _) = _; rw [if_pos rfl]) (row' := (row9.set (pc * 3 + 1) .nilslice).set (pc * 3 + 2) .nilslice) (by simp) (fun i hi => List.getElem?_set_ne (by omega)), ?_, ?_, ?_, ?_, Nat.le_refl _, ?_, by omega, hfol⟩
        · exact fun x hx => (KK.tag x (by omega)).trans (hTl x hx)
        · exact (KK.tag _ (by omega)).trans hT3
        · refine ExtB.trans (ExtB.trans (η' := η10) ⟨by have := KK.nx; omega, fun x hx => (KK.keep x (by omega) (hTl x hx) (by omega)).trans (E5.2 x hx)⟩ (.put (c := η.nx + 1) (by omega))) (.put (by omega))
        · show (if η.nx = η.nx + 1 then _ else if η.nx = η.nx + 1 then _ else _) = _
          rw [if_neg (by omega), if_neg (by omega)]
          exact (KK.keep _ (by omega) hT3 (by omega)).trans hr5
        · have := KK.nx
          show η.nx < η10.nx
          omega
  obtain rfl : pc = p.code.length := by omega
  rw [List.drop_length, followF] at hfol
  obtain ⟨row5, hbl5, hrl5, hpl5⟩ := P.row
  have hbln := P.bl
  have hpc5 := hpl5 _ (Nat.le_refl _) hpc
  cases hst : st p.code.length with
  | none =>
    rw [hst] at hpc5 hfol
    obtain ⟨x, y, hd⟩ : ∃ x y, (row5.drop (p.code.length * 3)).take 3 = [.bool false, x, y] := ⟨_, _, drop3 hpc5 (List.getElem?_eq_getElem (by omega)) (List.getElem?_eq_getElem (by omega))⟩
    simp -implicitDefEqProofs (disch := omega) only [go_sem, p0, p3, p4, p5, p40, p41, p42, hbl5, hd, hr5]
    refine ⟨E5.trans (.put (Nat.le_refl _)), ?_⟩
    rw [← hfol]
    exact ⟨x, y, rfl⟩
  | some d =>
    rw [hst] at hpc5 hfol
    obtain ⟨g1, v1, v2, g2, g3, hD⟩ := hpc5
    have hd := drop3 g1 g2 g3
    have ld := P.len _ d (Nat.le_refl _) hst
    simp -implicitDefEqProofs (disch := omega) only [go_sem, p0, p3, p4, p5, p40, p41, p42, hbl5, hd, hr5]
    refine ⟨E5.trans (.put (Nat.le_refl _)), ?_⟩
    rw [← hfol]
    obtain ⟨w1, w2, s1, s2, s3, ⟨b2, cap2, rfl, q1, q2, q3, q4⟩⟩ := hD
    exact ⟨v1, _, w2, rfl, rdI_blk w2 (by show (if b2 = η.nx then _ else _) = _; rw [if_neg (by intro e; rw [e, hT3] at q3; omega)]; exact q4) q2, s2, ld.2⟩
end Go.Proofs.Ytjljolnhmmbkoaa
