/- What is proved: what the law's own kinds are. Conditions: none. -/
import Derived.Test.YtjljolnhmmbkoaaValid17
import Derived.Test.YtjljolnhmmbkoaaPlain3
set_option linter.unusedVariables false
set_option linter.unusedSimpArgs false
set_option linter.unusedSectionVars false
namespace Go.Proofs.Ytjljolnhmmbkoaa
open Go.Eng Go.Plain
set_option autoImplicit false
set_option maxRecDepth 100000
variable {nat : ∀ [Deep], Nats}
theorem fill_get {n i : Nat} {x y : AV} (h : i ≤ n) : (List.replicate i x ++ List.replicate (n - i) y).length = n := by rw [List.length_append, List.length_replicate, List.length_replicate]; omega
theorem fill_set {n i : Nat} {x y : AV} (h : i < n) : (List.replicate i x ++ List.replicate (n - i) y).set i x = List.replicate (i + 1) x ++ List.replicate (n - (i + 1)) y := by
  rw [List.set_append, if_neg (by rw [List.length_replicate]; omega), List.length_replicate, Nat.sub_self, show n - i = n - (i + 1) + 1 by omega, List.replicate_succ, List.set_cons_zero, List.replicate_succ', List.append_assoc]; rfl
def kiI (η0 : HN) (n : Nat) (m : Nat) (φ : FN) (η : HN) : Prop := ∃ i, m = n - i ∧ i ≤ n ∧ φ 0 = .int .i64 n ∧ φ 3 = .slice η0.nx 0 n (.kn n) ∧ φ 4 = .int .i64 i ∧ η = η0.new (.live false (List.replicate i (.int .i64 2) ++ List.replicate (n - i) (.int .i64 0)))
theorem new_put {η : HN} {x y : BN} : (η.new x).put η.nx y = η.new y := by
  show HN.mk _ _ = HN.mk _ _
  congr 1; funext c
  show (if c = η.nx then _ else if c = η.nx then _ else _) = (if c = η.nx then _ else _)
  split <;> rfl
theorem kinds21_call (U : Usual nat) (η : HN) (n : Nat) (hn : n ≤ 1100) : CallN Try.prog nat 21 [.int .i64 n] η (.slice η.nx 0 n (.kn n)) (η.new (.live false (List.replicate n (.int .i64 2)))) := by
  have : ∃ v η', CallN Try.prog nat 21 [.int .i64 n] η v η' ∧ v = .slice η.nx 0 n (.kn n) ∧ η' = η.new (.live false (List.replicate n (.int .i64 2))) := by
    refine call_of (PT := pl21) Try.func21 rfl (U 21 (by decide)) ok21 rfl ?_
    have hc : ¬8 = 0 ∧ n * 8 ≤ 140737488355328 := ⟨by decide, by omega⟩
    simp -implicitDefEqProofs (disch := omega) only [go_sem, if_pos hc]
    refine wpN_loop (kiI η n) n ⟨0, by omega, by omega, rfl, rfl, rfl, rfl⟩ ?_
    rintro m φ η1 ⟨i, hm, hi, p0, p3, p4, rfl⟩
    by_cases hlt : i < n
    · have g1 := fill_get (n := n) (i := i) (x := .int .i64 2) (y := .int .i64 0) hi
      simp -implicitDefEqProofs (disch := omega) only [go_sem, p0, p3, p4]
      exact ⟨n - (i + 1), by omega, i + 1, rfl, by omega, p0, p3, rfl, by rw [new_put, fill_set hlt]⟩
    · obtain rfl : i = n := by omega
      simp -implicitDefEqProofs (disch := omega) only [go_sem, p0, p3, p4]
      rw [List.replicate_zero, List.append_nil]
  obtain ⟨v, η', k, rfl, rfl⟩ := this
  exact k
@[go_sem] theorem good26 : goodEq Try.prog 26 false = true := by kernel_rfl
@[go_sem] theorem good4 : goodEq Try.prog 4 false = true := by kernel_rfl
theorem eq26 {a b c d : Nat} : (eqB Try.prog 26).f (.agg [.int .i64 a, .int .i64 b]) (.agg [.int .i64 c, .int .i64 d]) = oB (some (Nat.beq a c)) (oB (some (Nat.beq b d)) (some true) (some false) none) (some false) none := by kernel_rfl
theorem eq26_t {a b : Nat} : (eqB Try.prog 26).f (.agg [.int .i64 a, .int .i64 b]) (.agg [.int .i64 a, .int .i64 b]) = some true := by rw [eq26, Nat.beq_refl, Nat.beq_refl]; rfl
theorem eq4 {a b : Bool} : (eqB Try.prog 4).f (.bool a) (.bool b) = some (beqB a b) := by kernel_rfl
@[go_sem] theorem eq4tt : (eqB Try.prog 4).f (.bool true) (.bool true) = some true := eq4
@[go_sem] theorem eq4tf : (eqB Try.prog 4).f (.bool true) (.bool false) = some false := eq4
@[go_sem] theorem eq4ft : (eqB Try.prog 4).f (.bool false) (.bool true) = some false := eq4
@[go_sem] theorem eq4ff : (eqB Try.prog 4).f (.bool false) (.bool false) = some true := eq4
theorem ltN_neg1 {n : Nat} (h : 9223372036854775807 < n) : ltN .i64 n 1 = true := by
  have h1 : nneg .i64 n = false := by
    cases hq : nneg .i64 n with
    | false => rfl
    | true => exact absurd (ble_true.1 hq) (by show ¬ Nat.succ n ≤ 9223372036854775808; omega)
  have h2 : nneg .i64 1 = true := rfl
  unfold ltN
  rw [h1, h2]; rfl
theorem nneg_i64 (n : Nat) : nneg .i64 n = decide (n ≤ 9223372036854775807) := by
  rw [Bool.eq_iff_iff, decide_eq_true_eq]
  constructor
  · intro h; have := ble_true.1 h; have h3 : halfN .i64 = 9223372036854775808 := rfl; omega
  · intro h; exact ble_true.2 (show Nat.succ n ≤ 9223372036854775808 by omega)
theorem ltN_to {n : Nat} (h : n < 18446744073709551616) : ltN .i64 n 18446744073709551611 = decide (9223372036854775807 < n ∧ n < 18446744073709551611) ∧ ltN .i64 50 n = decide (50 < n ∧ n ≤ 9223372036854775807) := by
  have h2 : nneg .i64 18446744073709551611 = false := rfl
  have h3 : nneg .i64 50 = true := rfl
  have hb : ∀ a b : Nat, Nat.blt a b = decide (a < b) := fun a b => by rw [Bool.eq_iff_iff, decide_eq_true_eq]; exact ble_true
  unfold ltN
  rw [nneg_i64, h2, h3]
  by_cases h1 : n ≤ 9223372036854775807
  · rw [decide_eq_true h1]
    refine ⟨?_, ?_⟩
    · rw [decide_eq_false (by omega)]; rfl
    · show Nat.blt 50 n = _
      rw [hb]
      by_cases h4 : 50 < n
      · rw [decide_eq_true h4, decide_eq_true ⟨h4, h1⟩]
      · rw [decide_eq_false h4, decide_eq_false (by omega)]
  · rw [decide_eq_false h1]
    refine ⟨?_, ?_⟩
    · show Nat.blt n 18446744073709551611 = _
      rw [hb]
      by_cases h4 : n < 18446744073709551611
      · rw [decide_eq_true h4, decide_eq_true ⟨by omega, h4⟩]
      · rw [decide_eq_false h4, decide_eq_false (by omega)]
    · rw [decide_eq_false (by omega)]; rfl
def rowsC (l : List Ins) : List AV := (l.map Ins.cells).flatten
theorem cells4 (l : List Ins) : ∀ x ∈ l.map Ins.cells, x.length = 4 := by intro x hx; obtain ⟨i, _, rfl⟩ := List.mem_map.1 hx; rfl
theorem rowsC_len (l : List Ins) : (rowsC l).length = l.length * 4 := by unfold rowsC; rw [flat_len _ (cells4 l), List.length_map]
theorem rowsC_set (l : List Ins) (i : Nat) (x : Ins) (h : i < l.length) : setsL (rowsC l) (i * 4) x.cells = rowsC (l.set i x) := by
  unfold rowsC; rw [setsL_flat (show x.cells.length = 4 from rfl) _ i (cells4 l) (by simpa using h), List.map_set]
theorem rowsC_rep (n : Nat) : repL n [AV.int .i64 0, .int .i64 0, .int .i64 0, .int .i64 0] = rowsC (List.replicate n ⟨0, 0, 0, 0⟩) := by unfold rowsC repL; rw [List.map_replicate]; rfl
theorem rdC_blk {η : HN} {b : Nat} {cap : Cp} {ro : Bool} (l : List Ins) (hb : η.f b = .live ro (rowsC l)) (hn : b < η.nx) : RdC η (.slice b 0 l.length cap) l := by
  have := RdR.blk (cap := cap) _ hb hn (cells4 l)
  rw [List.length_map] at this
  exact this
theorem rdI_nil {k : IntKind} {η : HN} : RdI k η .nilslice [] := .inl ⟨rfl, .inl rfl⟩
theorem rep_map {k : IntKind} {n x : Nat} : List.replicate n (AV.int k x) = (List.replicate n x).map (.int k) := by rw [List.map_replicate]
theorem check_then (U : Usual nat) {η : HN} (z : PV) (p : PD) {Q : AV → HN → Prop} (hp : IsP η z p) (hf : Fine p) (h : ∀ η', ExtB η.nx η η' → Q (.tup [.agg [.int .i64 (checkF p).1, .int .i64 (checkF p).2], .bool (decide ((checkF p).2 = 0))]) η') : ∃ v η', CallN Try.prog nat 17 [.agg z.cells] η v η' ∧ Q v η' := by
  obtain ⟨v, η', k, rfl, E⟩ := check_spec U η z p hp hf
  exact ⟨_, η', k, h η' E⟩
end Go.Proofs.Ytjljolnhmmbkoaa
