/- What is proved: ints and lists of ints that come in. Conditions: as each theorem says. -/
import Derived.Test.YtgccjneplchojaaGreatDoorKnown
import Derived.Test.YtgccjneplchojaaGreatDoorWM
set_option linter.unusedVariables false
set_option linter.unusedSimpArgs false
set_option linter.unusedSectionVars false
namespace Go.Eng
open Go.ChangeShapes Go.WideShapes
set_option autoImplicit false
theorem lay_slice {H : Type} {enc : TypeId × Value → H} {P : Program} {w : World} {t e : TypeId} {v : Value} {d : DataW H} {p : List MemPlace} {base : Nat} (m : Nat) (hp : plainTy P m t = true) (ht : P.underlying t = some (.slice e)) (hv : Value.okWide P w .any base t v) (h : DataW.Trod enc P w 0 (fun _ => true) true t v d p) :
    LayC P w [v] fun η z => RepT P η m t z d := by
  obtain ⟨a, len, cap, rfl⟩ := okWide_slice ht hv
  exact lay_cell m hp rfl h
theorem lay_int {H : Type} {enc : TypeId × Value → H} {P : Program} {w : World} {t : TypeId} {k : IntKind} {v : Value} {d : DataW H} {p : List MemPlace} {base : Nat} (m : Nat) (hp : plainTy P m t = true) (ht : P.underlying t = some (.int k)) (hv : Value.okWide P w .any base t v) (h : DataW.Trod enc P w 0 (fun _ => true) true t v d p) :
    LayC P w [v] fun η z => RepT P η m t z d := by
  obtain ⟨n, rfl⟩ := okWide_int ht hv
  exact lay_cell m hp rfl h
theorem lay_bool {H : Type} {enc : TypeId × Value → H} {P : Program} {w : World} {t : TypeId} {v : Value} {d : DataW H} {p : List MemPlace} {base : Nat} (m : Nat) (hp : plainTy P m t = true) (ht : P.underlying t = some .bool) (hv : Value.okWide P w .any base t v) (h : DataW.Trod enc P w 0 (fun _ => true) true t v d p) :
    LayC P w [v] fun η z => RepT P η m t z d := by
  obtain ⟨n, rfl⟩ := okWide_bool ht hv
  exact lay_cell m hp rfl h
end Go.Eng
namespace Go.Proofs.YtgccjneplchojaaGreatDoor
open Go.Eng Go.Plain Go.ChangeShapes Go.WideShapes
set_option autoImplicit false
set_option maxRecDepth 100000
theorem cells2 : Tryz.prog.cellsOf 2 = 1 := by kernel_rfl
theorem plain3 : plainTy Tryz.prog 6 3 = true := by kernel_rfl
theorem plain57 : plainTy Tryz.prog 6 57 = true := by kernel_rfl
section
variable {H : Type} {η : HN}
theorem rep_int {m : Nat} {t : TypeId} {cs : List AV} {d : DataW H} (ht : Tryz.prog.underlying t = some (.int .i64)) (h : RepT Tryz.prog η (m + 1) t cs d) : ∃ n, n < 18446744073709551616 ∧ cs = [.int .i64 n] := by
  rw [RepT, ht] at h
  obtain ⟨z, rfl, _⟩ := h
  exact ⟨_, @res_lt ⟨0, 0⟩ noEnv .i64 z, rfl⟩
abbrev R64 := { n : Nat // n < 18446744073709551616 }
theorem rep_ints {m : Nat} {t e : TypeId} {cs : List AV} {d : DataW H} (ht : Tryz.prog.underlying t = some (.slice e)) (he : Tryz.prog.underlying e = some (.int .i64)) (hc : Tryz.prog.cellsOf e = 1) (h : RepT Tryz.prog η (m + 2) t cs d) :
    ∃ y l, cs = [y] ∧ RdI .i64 η y l ∧ l.length ≤ 9223372036854775807 ∧ ∀ n ∈ l, n < 18446744073709551616 := by
  obtain ⟨y, l, e1, e2, e3⟩ := rep_slice (α := R64) (fun a => [.int .i64 a.1]) ht h (fun a => by rw [hc]; rfl) fun z x hx => by
    obtain ⟨n, hn, e⟩ := rep_int he hx
    exact ⟨⟨n, hn⟩, e⟩
  refine ⟨y, l.map (·.1), e1, ?_, by rw [List.length_map]; unfold maxLen at e3; omega, fun n hn => by obtain ⟨a, _, rfl⟩ := List.mem_map.1 hn; exact a.2⟩
  unfold RdI
  rw [hc] at e2
  rw [List.map_map]
  exact e2
end
end Go.Proofs.YtgccjneplchojaaGreatDoor
