/- What is proved: what the closure of an instruction's kinds does. Conditions: none. -/
import Derived.Test.YtjljolnhmmbkoaaValid8
set_option linter.unusedVariables false
set_option linter.unusedSimpArgs false
set_option linter.unusedSectionVars false
namespace Go.Proofs.Ytjljolnhmmbkoaa
open Go.Eng Go.Plain
set_option autoImplicit false
set_option maxRecDepth 100000
variable {nat : ∀ [Deep], Nats}
theorem getD_get (l : List Nat) (n : Nat) (h : n < l.length) : l.getD n 0 = l[n] := by rw [List.getD_eq_getElem?_getD, List.getElem?_eq_getElem h]; rfl
theorem not_call (U : Usual nat) (η : HN) (b bk : Nat) (ro : Bool) (z : PV) (p : PD) (k n : Nat) (hb : η.f b = .live ro z.cells) (hk : η.f bk = .live false [.int .i64 k]) (hn : n < p.slots.length) (hs : RdI .i64 η z.z3 p.slots) (hm : p.slots.length ≤ 1099511627776) :
    CallN Try.prog nat 82 [.int .i64 n, .ptr b 0, .ptr bk 0] η (.bool (!isF p k n)) η := by
  have : ∃ v η', CallN Try.prog nat 82 [.int .i64 n, .ptr b 0, .ptr bk 0] η v η' ∧ v = .bool (!isF p k n) ∧ η' = η := by
    refine call_of (PT := pl82) Try.func82 rfl (U 82 (by decide)) ok82 rfl ?_
    obtain ⟨b', off, cap, ro', row, hz, hb', hnb, hr⟩ := hs.at hn
    have hnn : n < 9223372036854775808 := by omega
    simp -implicitDefEqProofs (disch := omega) only [go_sem, hb, hz, hb', hr, hk]
    unfold isF
    rw [getD_get _ _ hn]
  obtain ⟨v, η', k, rfl, rfl⟩ := this
  exact k
theorem any_not (l : List Nat) (q : Nat → Bool) : (!l.any fun n => !q n) = l.all q := by
  induction l with
  | nil => rfl
  | cons x l ih => rw [List.any_cons, List.all_cons, Bool.not_or, ih, Bool.not_not]
theorem is_then (U : Usual nat) {η : HN} {b : Nat} {ro : Bool} {z : PV} {p : PD} {k : Nat} {y : AV} {l : List Nat} {Q : AV → HN → Prop} (hb : η.f b = .live ro z.cells) (hbn : b < η.nx) (hy : RdI .i64 η y l) (hl : l.length ≤ 1099511627776) (hn : ∀ n ∈ l, n < p.slots.length) (hs : RdI .i64 η z.z3 p.slots)
    (hm : p.slots.length ≤ 1099511627776) (h : ∀ η', ExtB η.nx η η' → Q (.bool (l.all (isF p k))) η') : ∃ v η', CallN Try.prog nat 80 [.int .i64 k, y, .ptr b 0] η v η' ∧ Q v η' := by
  refine call_of (PT := pl80) Try.func80 rfl (U 80 (by decide)) ok80 rfl ?_
  simp -implicitDefEqProofs (disch := omega) only [go_sem]
  have E : ExtB η.nx η (η.new (.live false [.int .i64 k])) := extN (.refl _ _)
  obtain ⟨v, η', c, rfl, rfl⟩ := contains2_spec U (η.new (.live false [.int .i64 k])) y l (fun n => !isF p k n) 82 [.ptr b 0, .ptr η.nx 0] (rdI_ext hy E) hl fun n hn' =>
    not_call U _ b η.nx ro z p k n ((E.2 b hbn).trans hb) (by show (if η.nx = η.nx then _ else _) = _; rw [if_pos rfl]) (hn n hn') (rdI_ext hs E) hm
  refine thenN_call ⟨_, _, c, ?_⟩
  simp -implicitDefEqProofs (disch := omega) only [go_sem]
  rw [any_not]
  exact h _ E
end Go.Proofs.Ytjljolnhmmbkoaa
