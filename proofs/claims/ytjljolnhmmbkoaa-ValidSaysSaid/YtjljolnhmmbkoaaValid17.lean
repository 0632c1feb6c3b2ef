/- What is proved: what valid.Check answers. Conditions: none. -/
import Derived.Test.YtjljolnhmmbkoaaValid16
set_option linter.unusedVariables false
set_option linter.unusedSimpArgs false
set_option linter.unusedSectionVars false
namespace Go.Proofs.Ytjljolnhmmbkoaa
open Go.Eng Go.Plain
set_option autoImplicit false
set_option maxRecDepth 100000
variable {nat : ∀ [Deep], Nats}
/-- through the code, at a rule -/
def ckI (η0 : HN) (z : PV) (p : PD) (r : Nat) (f : Nat → Ins → Bool) (m : Nat) (φ : FN) (η : HN) : Prop := ∃ pc, m = p.code.length - pc ∧ pc ≤ p.code.length ∧ φ 1 = .ptr η0.nx 0 ∧ φ 2 = .ptr (η0.nx + 1) 0 ∧ φ 4 = .ptr (η0.nx + 1 + 1) 0 ∧ φ 5 = .int .i64 r ∧ φ 23 = z.z6 ∧ φ 24 = .int .i64 p.code.length ∧ φ 25 = .int .i64 pc ∧
  ExtB η0.nx η0 η ∧ η0.nx + 1 + 1 < η.nx ∧ η.f η0.nx = .live false z.cells ∧ η.f (η0.nx + 1) = .live false [.int .i64 0, .int .i64 0] ∧ η.f (η0.nx + 1 + 1) = .live false z.cells ∧ firstF f (p.code.drop pc) pc = firstF f p.code 0
def ckQ (η0 : HN) (p : PD) (v : AV) (η : HN) : Prop := v = .tup [.agg [.int .i64 (checkF p).1, .int .i64 (checkF p).2], .bool (decide ((checkF p).2 = 0))] ∧ ExtB η0.nx η0 η
attribute [go_sem] opd_m1 opd_m1'
@[go_sem] theorem wantV_und' {w : Bool} : wantV und w = false := rfl
/-- through the outputs -/
def laI (η0 : HN) (p : PD) (t9 : Nat) (came : Bool) (d2 : List Bool) (m : Nat) (φ : FN) (η : HN) : Prop := η = η0 ∧ ∃ i, m = p.outs.length - i ∧ i ≤ p.outs.length ∧ φ 65 = .int .i64 i ∧ φ 64 = .int .i64 p.outs.length ∧ φ 9 = .ptr t9 0 ∧ (came = true → ∀ j, j < i → d2.getD j false = true)
theorem all_ids {l : List Bool} : (∀ j, j < l.length → l.getD j false = true) → l.all id = true := by
  intro h
  rw [List.all_eq_true]
  intro x hx
  obtain ⟨j, hj, rfl⟩ := List.getElem_of_mem hx
  have := h j hj
  rwa [List.getD_eq_getElem?_getD, List.getElem?_eq_getElem hj] at this
set_option maxHeartbeats 2000000 in
theorem check_spec (U : Usual nat) (η : HN) (z : PV) (p : PD) (hp : IsP η z p) (hf : Fine p) :
    ∃ v η', CallN Try.prog nat 17 [.agg z.cells] η v η' ∧ ckQ η p v η' := by
  refine call_of (PT := pl17) Try.func17 rfl (U 17 (by decide)) ok17 rfl ?_
  have l2 := rdI_len hp.outs hf.outs.1
  have l6 := rdC_len hp.code hf.code.1
  have b6 := hf.code.1
  simp -implicitDefEqProofs (disch := omega) only [go_sem]
  have E1 : ExtB η.nx η (((η.new (.live false z.cells)).new (.live false [.int .i64 0, .int .i64 0])).new (.live false z.cells)) := extN (extN (extN (.refl _ _)))
  have hn1 : (((η.new (.live false z.cells)).new (.live false [.int .i64 0, .int .i64 0])).new (.live false z.cells)).nx = η.nx + 3 := rfl
  have x1 : (((η.new (.live false z.cells)).new (.live false [.int .i64 0, .int .i64 0])).new (.live false z.cells)).f η.nx = .live false z.cells := by
    show (if η.nx = η.nx + 1 + 1 then _ else if η.nx = η.nx + 1 then _ else if η.nx = η.nx then _ else _) = _; rw [if_neg (by omega), if_neg (by omega), if_pos rfl]
  have x2 : (((η.new (.live false z.cells)).new (.live false [.int .i64 0, .int .i64 0])).new (.live false z.cells)).f (η.nx + 1) = .live false [.int .i64 0, .int .i64 0] := by
    show (if η.nx + 1 = η.nx + 1 + 1 then _ else if η.nx + 1 = η.nx + 1 then _ else _) = _; rw [if_neg (by omega), if_pos rfl]
  have x3 : (((η.new (.live false z.cells)).new (.live false [.int .i64 0, .int .i64 0])).new (.live false z.cells)).f (η.nx + 1 + 1) = .live false z.cells := by
    show (if η.nx + 1 + 1 = η.nx + 1 + 1 then _ else _) = _; rw [if_pos rfl]
  have U1 := parts_spec U (((η.new (.live false z.cells)).new (.live false [.int .i64 0, .int .i64 0])).new (.live false z.cells)) (η.nx + 1 + 1) false z p x3 (by omega) (hp.ext E1) hf
  obtain ⟨v2, η2, k2, rfl, E2⟩ := U1
  refine thenN_call ⟨_, _, k2, ?_⟩
  have y1 := (E2.2 _ (by omega)).trans x1
  have y2 := (E2.2 _ (by omega)).trans x2
  have y3 := (E2.2 _ (by omega)).trans x3
  have E12 := extT E1 E2
  have n2 : η.nx + 1 + 1 < η2.nx := by have := E2.1; omega
  clear x1 x2 x3 E1 E2 k2 hn1
  unfold ckQ checkF
  cases hpa : partsF p with
  | false =>
    simp -implicitDefEqProofs (disch := omega) only [go_sem, Bool.not_false, y2]
    exact extP E12
  | true =>
  rw [if_pos rfl]
  simp -implicitDefEqProofs (disch := omega) only [go_sem, Bool.not_true]
  refine loop_n 3 ?_
  simp -implicitDefEqProofs (disch := omega) only [go_sem, y1, l6]
  refine wpN_loop (ckI η z p 2 (thereF p)) p.code.length ⟨0, by omega, Nat.zero_le _, rfl, rfl, rfl, rfl, rfl, rfl, rfl, E12, n2, y1, y2, y3, rfl⟩ ?_
  rintro m φ3 η3 ⟨pc, hm, hpc, p1, p2, p4, p5, p23, p24, p25, E3, n3, y1, y2, y3, hfr⟩
  have hc3 : Try.prog = Try.prog := rfl
  by_cases hlt : pc < p.code.length
  · obtain ⟨bc, offc, capc, roc, rowc, z6e, hbc, hbcn, hlc, hrc⟩ := RdR.at (i := pc) (hp.ext E3).code (by simpa using hlt)
    simp only [List.length_map, List.getElem_map] at z6e hrc
    have hsz : (Ins.cells p.code[pc]).length = 4 := rfl
    have fb := hf.code.2 _ (List.getElem_mem hlt)
    have E3b : ExtB η3.nx η3 ((η3.new (.live false [.int .i64 0, .int .i64 0, .int .i64 0, .int .i64 0])).put η3.nx (.live false (Ins.cells p.code[pc]))) := extP (extN (.refl _ _))
    have hn3b : ((η3.new (.live false [.int .i64 0, .int .i64 0, .int .i64 0, .int .i64 0])).put η3.nx (.live false (Ins.cells p.code[pc]))).nx = η3.nx + 1 := rfl
    have w3 := (E3b.2 _ (by omega)).trans y3
    simp -implicitDefEqProofs (disch := omega) only [go_sem, p1, p2, p4, p5, p23, p24, p25, z6e, hbc, hrc, Bool.false_and, Bool.true_and]
    rw [List.drop_eq_getElem_cons hlt, firstF] at hfr
    obtain ⟨v5, η5, k5, rfl, E5⟩ := there_spec U _ (η.nx + 1 + 1) false z p pc p.code[pc] w3 (by omega) (hp.ext (extT E3 E3b)) hf (by omega) fb
    refine thenN_call ⟨_, _, k5, ?_⟩
    have E35 := extT E3 (extT E3b E5)
    have g5 := E5.1
    have s1 := ((extT E3b E5).2 _ (by omega)).trans y1
    have s2 := ((extT E3b E5).2 _ (by omega)).trans y2
    have s3 := ((extT E3b E5).2 _ (by omega)).trans y3
    cases hx : thereF p pc p.code[pc] with
    | false =>
      rw [hx, if_neg (by decide)] at hfr
      rw [← hfr]
      simp -implicitDefEqProofs (disch := omega) only [go_sem, Bool.not_false, Bool.and_true, Bool.true_and, p5, p2, p25, s2]
      first | exact extP E35 | exact ⟨rfl, extP E35⟩
    | true =>
      rw [hx, if_pos rfl] at hfr
      simp -implicitDefEqProofs (disch := omega) only [go_sem, Bool.not_true, Bool.and_false, Bool.false_and, p5, p2, p25]
      exact ⟨p.code.length - (pc + 1), by omega, pc + 1, rfl, by omega, p1, p2, p4, p5, p23, p24, rfl, E35, by omega, s1, s2, s3, hfr⟩
  obtain rfl : pc = p.code.length := by omega
  rw [List.drop_length, firstF] at hfr
  simp -implicitDefEqProofs (disch := omega) only [go_sem, p1, p2, p4, p5, p23, p24, p25, y1, l6]
  clear p5 p23 p24 p25
  have hth := hfr.symm
  rw [hth]
  refine wpN_loop (ckI η z p 3 (fun _ => kindsF p)) p.code.length ⟨0, by omega, Nat.zero_le _, p1, p2, p4, rfl, rfl, rfl, rfl, E3, n3, y1, y2, y3, rfl⟩ ?_
  rintro m φ4 η4 ⟨pc, hm, hpc, p1, p2, p4, p5, p23, p24, p25, E4, n4, y1, y2, y3, hfr⟩
  have hc4 : Try.prog = Try.prog := rfl
  by_cases hlt : pc < p.code.length
  · obtain ⟨bc, offc, capc, roc, rowc, z6e, hbc, hbcn, hlc, hrc⟩ := RdR.at (i := pc) (hp.ext E4).code (by simpa using hlt)
    simp only [List.length_map, List.getElem_map] at z6e hrc
    have hsz : (Ins.cells p.code[pc]).length = 4 := rfl
    have fb := hf.code.2 _ (List.getElem_mem hlt)
    have E4b : ExtB η4.nx η4 ((η4.new (.live false [.int .i64 0, .int .i64 0, .int .i64 0, .int .i64 0])).put η4.nx (.live false (Ins.cells p.code[pc]))) := extP (extN (.refl _ _))
    have hn4b : ((η4.new (.live false [.int .i64 0, .int .i64 0, .int .i64 0, .int .i64 0])).put η4.nx (.live false (Ins.cells p.code[pc]))).nx = η4.nx + 1 := rfl
    have w3 := (E4b.2 _ (by omega)).trans y3
    simp -implicitDefEqProofs (disch := omega) only [go_sem, p1, p2, p4, p5, p23, p24, p25, z6e, hbc, hrc, Bool.false_and, Bool.true_and]
    rw [List.drop_eq_getElem_cons hlt, firstF] at hfr
    obtain ⟨v5, η5, k5, rfl, E5⟩ := kinds_spec U _ (η.nx + 1 + 1) false z p pc p.code[pc] w3 (by omega) (hp.ext (extT E4 E4b)) hf fb (by have := first_none hth pc hlt; rwa [Nat.zero_add] at this)
    refine thenN_call ⟨_, _, k5, ?_⟩
    have E35 := extT E4 (extT E4b E5)
    have g5 := E5.1
    have s1 := ((extT E4b E5).2 _ (by omega)).trans y1
    have s2 := ((extT E4b E5).2 _ (by omega)).trans y2
    have s3 := ((extT E4b E5).2 _ (by omega)).trans y3
    cases hx : kindsF p p.code[pc] with
    | false =>
      rw [hx, if_neg (by decide)] at hfr
      rw [← hfr]
      simp -implicitDefEqProofs (disch := omega) only [go_sem, Bool.not_false, Bool.and_true, Bool.true_and, p5, p2, p25, s2]
      first | exact extP E35 | exact ⟨rfl, extP E35⟩
    | true =>
      rw [hx, if_pos rfl] at hfr
      simp -implicitDefEqProofs (disch := omega) only [go_sem, Bool.not_true, Bool.and_false, Bool.false_and, p5, p2, p25]
      exact ⟨p.code.length - (pc + 1), by omega, pc + 1, rfl, by omega, p1, p2, p4, p5, p23, p24, rfl, E35, by omega, s1, s2, s3, hfr⟩
  obtain rfl : pc = p.code.length := by omega
  rw [List.drop_length, firstF] at hfr
  simp -implicitDefEqProofs (disch := omega) only [go_sem, p1, p2, p4, p5, p23, p24, p25, y1, l6]
  have hkd := hfr.symm
  rw [hkd]
  dsimp only
  have bounds : p.outs.length ≤ 64 ∧ p.code.length ≤ 8192 := by
    unfold partsF at hpa
    simp only [Bool.and_eq_true, decide_eq_true_eq] at hpa
    omega
  obtain ⟨m2, m6⟩ := bounds
  obtain ⟨v6, η6, k6, E6, F6⟩ := follow_spec U η4 (η.nx + 1 + 1) false z p y3 (by omega) (hp.ext E4) hf hpa hth
  refine thenN_call ⟨_, _, k6, ?_⟩
  have E46 := extT E4 E6
  have g6 := E6.1
  have s1 := (E6.2 _ (by omega)).trans y1
  have s2 := (E6.2 _ (by omega)).trans y2
  unfold lastF
  cases hfo : followF p.code 0 (startF p) with
  | inl pc =>
    rw [hfo] at F6
    obtain ⟨rfl, hpc⟩ := F6
    simp -implicitDefEqProofs (disch := omega) only [go_sem, p1, p2, p4, s1, s2, Bool.not_false]
    first | exact extP (extP (extN E46)) | exact ⟨rfl, extP (extP (extN E46))⟩
  | inr x =>
  cases x with
  | none =>
    rw [hfo] at F6
    obtain ⟨x, y, rfl⟩ := F6
    simp -implicitDefEqProofs (disch := omega) only [go_sem, p1, p2, p4, s1, s2, l2, Bool.not_true]
    refine wpN_loop (fun m φ η' => laI ((η6.new (.live false [.bool false, .nilslice, .nilslice])).put η6.nx (.live false [.bool false, x, y])) p η6.nx false [] m φ η' ∧ φ 1 = .ptr η.nx 0 ∧ φ 2 = .ptr (η.nx + 1) 0) p.outs.length ⟨⟨rfl, 0, by omega, Nat.zero_le _, rfl, rfl, rfl, fun h => by cases h⟩, p1, p2⟩ ?_
    rintro m φ7 η7 ⟨⟨rfl, i, hm, hi, r65, r64, r9, _⟩, q1, q2⟩
    by_cases hlt : i < p.outs.length
    · simp -implicitDefEqProofs (disch := omega) only [go_sem, r65, r64, r9, Bool.false_and]
      exact ⟨p.outs.length - (i + 1), by omega, ⟨rfl, i + 1, rfl, by omega, rfl, r64, r9, fun h => by cases h⟩, q1, q2⟩
    · obtain rfl : i = p.outs.length := by omega
      simp -implicitDefEqProofs (disch := omega) only [go_sem, r65, r64, r9, q1, q2, s2]
      first | exact extP (extP (extN E46)) | exact ⟨rfl, extP (extP (extN E46))⟩
  | some d =>
    rw [hfo] at F6
    obtain ⟨x, y, w, rfl, F7, F8, F9⟩ := F6
    simp -implicitDefEqProofs (disch := omega) only [go_sem, p1, p2, p4, s1, s2, l2, Bool.not_true]
    have E7 : ExtB η6.nx η6 ((η6.new (.live false [.bool false, .nilslice, .nilslice])).put η6.nx (.live false [.bool true, x, y])) := extP (extN (.refl _ _))
    refine wpN_loop (fun m φ η' => laI ((η6.new (.live false [.bool false, .nilslice, .nilslice])).put η6.nx (.live false [.bool true, x, y])) p η6.nx true d.2 m φ η' ∧ φ 1 = .ptr η.nx 0 ∧ φ 2 = .ptr (η.nx + 1) 0) p.outs.length ⟨⟨rfl, 0, by omega, Nat.zero_le _, rfl, rfl, rfl, fun _ j hj => absurd hj (Nat.not_lt_zero j)⟩, p1, p2⟩ ?_
    rintro m φ7 η7 ⟨⟨rfl, i, hm, hi, r65, r64, r9, hall⟩, q1, q2⟩
    have hall := hall rfl
    by_cases hlt : i < p.outs.length
    · simp -implicitDefEqProofs (disch := omega) only [go_sem, r65, r64, r9]
      refine thenN_call ⟨_, _, has_call U _ _ _ _ _ (rdI_ext F7 E7) F8 (by omega) (by omega), ?_⟩
      cases hb : d.2.getD i false with
      | true =>
        simp -implicitDefEqProofs (disch := omega) only [go_sem, r65, r64, r9, Bool.not_true, Bool.true_and]
        refine ⟨p.outs.length - (i + 1), by omega, ⟨rfl, i + 1, rfl, by omega, rfl, r64, r9, fun _ j hj => ?_⟩, q1, q2⟩
        by_cases hji : j = i
        · rw [hji]; exact hb
        · exact hall j (by omega)
      | false =>
        have hna : d.2.all id = false := by
          cases h : d.2.all id with
          | false => rfl
          | true =>
            rw [List.all_eq_true] at h
            have := h _ (List.getElem_mem (show i < d.2.length by omega))
            rw [List.getD_eq_getElem?_getD, List.getElem?_eq_getElem (by omega)] at hb
            simp at hb this
            rw [hb] at this; cases this
        have hE : (if d.2.all id = true then ((0 : Nat), (0 : Nat)) else (p.code.length, 5)) = (p.code.length, 5) := if_neg (by rw [hna]; decide)
        simp -implicitDefEqProofs (disch := omega) only [hE, go_sem, r65, r64, r9, q1, q2, s1, s2, l6, Bool.not_false, Bool.true_and]
        first | exact extP (extP (extN E46)) | exact ⟨rfl, extP (extP (extN E46))⟩
    · obtain rfl : i = p.outs.length := by omega
      have hya : d.2.all id = true := all_ids (by rw [F9]; exact hall)
      have hE : (if d.2.all id = true then ((0 : Nat), (0 : Nat)) else (p.code.length, 5)) = (0, 0) := if_pos hya
      simp -implicitDefEqProofs (disch := omega) only [hE, go_sem, r65, r64, r9, q1, q2, s2]
      first | exact extP (extP (extN E46)) | exact ⟨rfl, extP (extP (extN E46))⟩
end Go.Proofs.Ytjljolnhmmbkoaa
