/- What is proved: ints, rows, bytes that come in, as lists. a machine's step, refused or not, told at once; many steps. Conditions: as each theorem says. -/
import Derived.Test.YtjljolnhmmbkoaaMacE
import Derived.Test.YtjljolnhmmbkoaaWN
set_option linter.unusedVariables false
set_option linter.unusedSimpArgs false
set_option linter.unusedSectionVars false
namespace Go.Eng
open Go.ChangeShapes Go.WideShapes
set_option autoImplicit false
theorem lay_slice {H : Type} {enc : TypeId × Value → H} {P : Program} {w : World} {t e : TypeId} {v : Value} {d : DataW H} {p : List MemPlace} {base : Nat} (m : Nat) (hp : plainTy P m t = true) (ht : P.underlying t = some (.slice e)) (hv : Value.okWide P w .any base t v) (h : DataW.Trod enc P w 0 (fun _ => true) true t v d p) :
    LayC P w [v] fun η z => RepT P η m t z d := by
  obtain ⟨a, len, cap, rfl⟩ := okWide_slice ht hv
  exact lay_cell m hp rfl h
end Go.Eng
namespace Go.Proofs.Ytjljolnhmmbkoaa
open Go.Eng Go.Plain Go.ChangeShapes Go.WideShapes
set_option autoImplicit false
set_option maxRecDepth 100000
theorem cells48 : Try.prog.cellsOf 48 = 1 := by kernel_rfl
theorem cells52 : Try.prog.cellsOf 52 = 1 := by kernel_rfl
theorem cells55 : Try.prog.cellsOf 55 = 1 := by kernel_rfl
theorem cells5 : Try.prog.cellsOf 5 = 1 := by kernel_rfl
theorem plain29 : plainTy Try.prog 6 29 = true := by kernel_rfl
theorem plain48 : plainTy Try.prog 6 48 = true := by kernel_rfl
theorem plain52 : plainTy Try.prog 6 52 = true := by kernel_rfl
theorem plain55 : plainTy Try.prog 6 55 = true := by kernel_rfl
section
variable {H : Type} {η : HN}
theorem rep_rows {m : Nat} {cs : List AV} {d : DataW H} (h : RepT Try.prog η (m + 3) 55 cs d) : ∃ y rs, cs = [y] ∧ RowsAt η y rs ∧ rs.length ≤ 9223372036854775807 := by
  obtain ⟨y, l, e1, e2, e3⟩ := rep_slice (α := { a : AV × List Nat // Rw η a }) (fun a => [a.1.1]) Try.underlying55 h (fun a => by rw [cells48]; rfl) fun z x hx => by
    obtain ⟨y, r, e, r1, r2, r3⟩ := rep_ints (m := m) Try.underlying48 Try.underlying2 cells2 hx
    exact ⟨⟨(y, r), r1, r2, r3⟩, e⟩
  rw [cells48] at e2
  refine ⟨y, l.map (·.1), e1, ⟨?_, fun a ha => ?_⟩, by rw [List.length_map]; unfold maxLen at e3; omega⟩
  · rw [List.map_map]; exact e2
  · obtain ⟨b, _, rfl⟩ := List.mem_map.1 ha; exact b.2
theorem rep_bytes {m : Nat} {cs : List AV} {d : DataW H} (h : RepT Try.prog η (m + 2) 52 cs d) : ∃ y l, cs = [y] ∧ RdA 1 η y l.length (u8s l) ∧ l.length ≤ 9223372036854775807 ∧ ∀ n ∈ l, n < 256 := by
  obtain ⟨y, l, e1, e2, e3⟩ := rep_slice (α := { n : Nat // n < 256 }) (fun a => [.int .u8 a.1]) Try.underlying52 h (fun a => by rw [cells5]; rfl) fun z x hx => by
    rw [RepT, Try.underlying5] at hx
    obtain ⟨n, rfl, _⟩ := hx
    exact ⟨⟨_, @res_lt ⟨0, 0⟩ noEnv .u8 n⟩, rfl⟩
  rw [cells5] at e2
  have e2 : RdI .u8 η y (l.map (·.1)) := by unfold RdI; rw [List.map_map]; exact e2
  refine ⟨y, l.map (·.1), e1, RdI.toA e2, by rw [List.length_map]; unfold maxLen at e3; omega, fun n hn => by obtain ⟨a, _, rfl⟩ := List.mem_map.1 hn; exact a.2⟩
end
end Go.Proofs.Ytjljolnhmmbkoaa
namespace Go.Proofs.Ytjljolnhmmbkoaa
open Go.Eng Go.Plain
set_option autoImplicit false
set_option maxRecDepth 100000
variable {nat : ∀ [Deep], Nats}
noncomputable def goS (p : PD) (s : List Nat × Nat) (r : List Nat) : List Nat × Nat := if fitF p.ins r then ((stepM p s.1 r).mems, s.2 + 1) else s
noncomputable def outS (p : PD) (ms r : List Nat) : List Nat := if fitF p.ins r then (stepM p ms r).outs else []
def errS (p : PD) (r : List Nat) : Nat := if fitF p.ins r then 0 else 1
def RowO (base : Nat) (η : HN) (y : AV) (l : List Nat) : Prop := (y = .nilslice ∧ l = []) ∨ OutAt base η y l
theorem RowO.rd {base : Nat} {η : HN} {y : AV} {l : List Nat} (h : RowO base η y l) : RdI .i64 η y l := by
  rcases h with ⟨rfl, rfl⟩ | h
  · exact .inl ⟨rfl, .inl rfl⟩
  · exact h.rd
theorem RowO.keep {base : Nat} {η η' : HN} {y : AV} {l : List Nat} (h : RowO base η y l) (hn : η.nx ≤ η'.nx) (hk : ∀ b, base ≤ b → b < η.nx → η'.f b = η.f b) : RowO base η' y l := h.imp id fun h => h.keep hn hk
theorem outS_len {p : PD} {ms r : List Nat} (hf : Fine p) (hm : ms.length = p.mems.length ∧ ∀ n ∈ ms, n < 18446744073709551616) (hlt : ∀ n ∈ r, n < 18446744073709551616) : (outS p ms r).length ≤ 9223372036854775807 := by
  unfold outS
  split
  · rename_i h
    have hl : r.length = p.ins.length := by unfold fitF at h; exact (of_decide_eq_true (Bool.and_eq_true_iff.1 h).1).symm
    have := (stepM_ok hf hm (inn := r) ⟨hl, hlt⟩).outs.1
    have := hf.outs.1
    omega
  · simp
theorem step_go (U : Usual nat) {η : HN} {lo hi mp mb ticks : Nat} {z : PV} {p : PD} {ms inn : List Nat} {yi : AV} {Q : AV → HN → Prop} (M : MachAt lo hi η mp mb z p ms ticks) (hf : Fine p) (hc : (checkF p).2 = 0) (hy : Stays η mp mb yi inn) (hin : inn.length ≤ 9223372036854775807 ∧ ∀ n ∈ inn, n < 18446744073709551616) (ht : ticks < 9223372036854775807)
    (h : ∀ x η', MachAt lo hi η' mp mb z p (goS p (ms, ticks) inn).1 (goS p (ms, ticks) inn).2 → RowO η.nx η' x (outS p ms inn) → η.nx ≤ η'.nx → (∀ b, b < η.nx → b ≠ mp → b ≠ mb → η'.f b = η.f b) → Q (.tup [x, .int .i64 (errS p inn)]) η') :
    ∃ v η', CallN Try.prog nat 25 [.ptr mp 0, yi] η v η' ∧ Q v η' := by
  unfold goS outS errS at h
  refine step_then U M hf hc hy hin ht (fun hno => ?_) fun hyes yo η' M' O n k => ?_
  · rw [hno] at h
    exact h _ _ M (.inl ⟨rfl, rfl⟩) (Nat.le_refl _) fun _ _ _ _ => rfl
  · rw [hyes] at h
    exact h _ _ M' (.inr O) n k
theorem goS_t {p : PD} {s : List Nat × Nat} {r : List Nat} : (goS p s r).2 ≤ s.2 + 1 := by unfold goS; split <;> (first | exact Nat.le_refl _ | exact Nat.le_succ _)
/-- after so many rows -/
noncomputable def runS (p : PD) (s : List Nat × Nat) (A : List (AV × List Nat)) (i : Nat) : List Nat × Nat := (A.take i).foldl (fun s a => goS p s a.2) s
theorem runS_0 {p : PD} {s : List Nat × Nat} {A : List (AV × List Nat)} : runS p s A 0 = s := rfl
theorem runS_s {p : PD} {s : List Nat × Nat} {A : List (AV × List Nat)} {i : Nat} (h : i < A.length) : runS p s A (i + 1) = goS p (runS p s A i) A[i].2 := by
  unfold runS
  rw [← List.take_append_getElem h, List.foldl_append]; rfl
theorem runS_t {p : PD} {s : List Nat × Nat} {A : List (AV × List Nat)} : ∀ i, i ≤ A.length → (runS p s A i).2 ≤ s.2 + i
  | 0, _ => Nat.le_refl _
  | i + 1, h => by
    rw [runS_s (by omega)]
    have := runS_t (p := p) (s := s) (A := A) i (by omega)
    have := @goS_t p (runS p s A i) A[i].2
    omega
/-- what came in stands while a machine that was made since steps -/
theorem Rw.stays {η η1 : HN} {base mp mb : Nat} {a : AV × List Nat} (h : Rw η a) (e : ExtB base η η1) (hb : η.nx ≤ base) (h1 : base ≤ mp) (h2 : base ≤ mb) (hn : base ≤ η1.nx) : Stays η1 mp mb a.1 a.2 := fun η' n k => RdR.ext (base := η.nx) h.rd ⟨Nat.le_trans e.1 n, fun b hb2 => (k b (by omega) (by omega) (by omega)).trans (e.2 b (by omega))⟩
theorem eq43_nil : (eqB Try.prog 43).f .nilptr .nilptr = some true := by kernel_rfl
theorem good43 (b : Bool) : goodEq Try.prog 43 b = true := by cases b <;> kernel_rfl
theorem strEq_rfl (n v : Nat) : strEq n v n v = true := by rw [strEq_at, decide_eq_true rfl, decide_eq_true rfl]; rfl
theorem stateB_ne (t : Nat) (l : List Nat) : stateB t l ≠ [] := fun h => by
  have := congrArg List.length h
  have h1 := uv_len t
  unfold stateB at this
  rw [List.length_append, List.length_append, List.length_nil] at this
  omega
theorem state_str {η : HN} {v : AV} {t : Nat} {l : List Nat} (h : RdA 1 η v (stateB t l).length (u8s (stateB t l))) : cvN' Try.prog (.slice 5 1 1) .str v η = .ok (.str (stateB t l).length (bV (stateB t l))) η := str_of h (stateB_ne t l) (by rfl)
end Go.Proofs.Ytjljolnhmmbkoaa
