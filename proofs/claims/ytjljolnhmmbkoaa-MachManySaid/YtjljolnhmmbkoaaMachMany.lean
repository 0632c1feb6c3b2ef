/- What is proved: MachMany's walk. MachMany gives true, whatever its arguments and the world. Conditions: as each theorem says. -/
import Derived.Test.YtjljolnhmmbkoaaMacE
import Derived.Test.YtjljolnhmmbkoaaPlain
import Derived.Test.YtjljolnhmmbkoaaWN
import Derived.Test.YtjljolnhmmbkoaaWake
import Derived.Test.YtjljolnhmmbkoaaMacG
import Derived.Test.YtjljolnhmmbkoaaWJ
import Derived.Test.YtjljolnhmmbkoaaRows
import Derived.WalkKit
import Derived.ProofKit
import Derived.OpenShut
set_option linter.unusedVariables false
set_option linter.unusedSimpArgs false
set_option linter.unusedSectionVars false
namespace Go.Proofs.Ytjljolnhmmbkoaa
open Go.Eng Go.Plain
set_option autoImplicit false
set_option maxRecDepth 100000
variable {nat : ∀ [Deep], Nats}
theorem _root_.Go.Eng.Grow.fresh {T : Nat → Nat} {lo t s n : Nat} {η : HN} {x : AV} {l : List AV} {y : BN} (h : Grow T lo η t s x n l) : Grow T lo (η.new y) t s x n l :=
  h.keep (Nat.le_succ _) (fun b _ hb _ => by show (if b = η.nx then _ else _) = _; rw [if_neg (by omega)]) fun _ _ => rfl
theorem _root_.Go.Eng.Grow.over {T : Nat → Nat} {lo t s n X t' : Nat} {η η2 : HN} {x : AV} {l : List AV} {y z : BN} (h : Grow T lo η t s x n l) (ht : t ≠ t') (hX : X < lo) (hn : η2.nx = (η.new y).nx + 1) (hk : ∀ b, b < (η.new y).nx → T b ≠ t' → η2.f b = (η.new y).f b) : Grow (tagN T (η.new y).nx t') lo (η2.put X z) t s x n l :=
  h.keep (by show η.nx ≤ η2.nx; rw [hn]; show η.nx ≤ η.nx + 1 + 1; omega) (fun b h1 h2 h3 => by
    show (if b = X then _ else η2.f b) = _
    rw [if_neg (by omega), hk b (by show b < η.nx + 1; omega) (by rw [h3]; exact ht)]
    show (if b = η.nx then _ else _) = _
    rw [if_neg (by omega)]) fun b hb => tagN_lt (by show b < η.nx + 1; omega)
theorem _root_.Go.Eng.Grow.put {T : Nat → Nat} {lo t s n X : Nat} {η : HN} {x : AV} {l : List AV} {z : BN} (h : Grow T lo η t s x n l) (hX : X < lo) : Grow T lo (η.put X z) t s x n l :=
  h.keep (Nat.le_refl _) (fun b h1 _ _ => by show (if b = X then _ else η.f b) = _; rw [if_neg (by omega)]) fun _ _ => rfl
structure Five (T : Nat → Nat) (lo : Nat) (η : HN) (n i : Nat) (s1 s2 s3 s4 s6 : AV) : Prop where
  g1 : Grow T lo η 1 1 s1 i (i64s (List.replicate i 2))
  g2 : Grow T lo η 2 1 s2 i (i64s (List.replicate i 2))
  g3 : Grow T lo η 3 1 s3 i (i64s (List.replicate i 2))
  g4 : Grow T lo η 4 1 s4 i (i64s (List.replicate i 2))
  g6 : Grow T lo η 6 4 s6 (4 * i) (rowsC (manyC n i))
def MoI (y ya : AV) (n mp : Nat) (η0 : HN) (m : Nat) (φ : FN) (η : HN) : Prop := η = η0 ∧ ∃ i, m = n - i ∧ i ≤ n ∧ φ 0 = y ∧ φ 3 = .int .i64 n ∧ φ 6 = .ptr mp 0 ∧ φ 8 = ya ∧ φ 12 = .int .i64 i
def MnI (X : Nat) (y : AV) (n : Nat) (η0 : HN) (m : Nat) (φ : FN) (η : HN) : Prop := ∃ i T s1 s2 s3 s4 s6, m = n - i ∧ i ≤ n ∧ φ 0 = y ∧ φ 3 = .int .i64 n ∧ φ 4 = .ptr X 0 ∧ φ 5 = .int .i64 i ∧ η.f X = .live false [s1, s2, s3, s4, .nilslice, s6] ∧ X + 1 ≤ η.nx ∧ Five T (X + 1) η n i s1 s2 s3 s4 s6 ∧ (∀ b, b < X → η.f b = η0.f b)
theorem twos (i : Nat) : i64s (List.replicate i 2) ++ [AV.int .i64 2] = i64s (List.replicate (i + 1) 2) := by unfold i64s; rw [List.replicate_succ', List.map_append]; rfl
theorem fours (n i : Nat) (h : i < n) : rowsC (manyC n i) ++ [AV.int .i64 2, .int .i64 i, .int .i64 i, .int .i64 0, .int .i64 5, .int .i64 i, .int .i64 i, .int .i64 0, .int .i64 4, .int .i64 i, .int .i64 i, .int .i64 0, .int .i64 3, .int .i64 (n - 1 - i), .int .i64 i, .int .i64 0] = rowsC (manyC n (i + 1)) := by
  rw [manyC_succ]; unfold rowsC; rw [List.map_append, List.flatten_append]; rfl
set_option maxHeartbeats 4000000 in
theorem many_spec (U : Usual nat) (h22 : Wakes nat) (η : HN) (y : AV) (v : List Nat) (hy : RdI .i64 η y v) (hl : v.length ≤ 9223372036854775807) (hlt : ∀ n ∈ v, n < 18446744073709551616) :
    ∃ r η', CallN Try.prog nat 15 [y] η r η' ∧ r = .bool true := by
  refine call_of (PT := pl15) Try.func15 rfl (U 15 (by decide)) ok15 rfl ?_
  simp -implicitDefEqProofs (disch := omega) only [go_sem]
  refine thenN_call ⟨_, _, h22 _, ?_⟩
  have l1 := rdI_len9 hy hl
  by_cases s1 : v.length < 1
  · simp -implicitDefEqProofs (disch := omega) only [go_sem, Bool.not_true, l1]
  by_cases s2 : 30 < v.length
  · simp -implicitDefEqProofs (disch := omega) only [go_sem, Bool.not_true, l1]
  simp -implicitDefEqProofs (disch := omega) only [go_sem, Bool.not_true, l1]
  refine wpN_loop (MnI η.nx y v.length η) v.length ⟨0, fun _ => 0, .nilslice, .nilslice, .nilslice, .nilslice, .nilslice, rfl, Nat.zero_le _, rfl, rfl, rfl, rfl, ?_, ?_, ⟨.nil, .nil, .nil, .nil, .nil⟩, ?_⟩ ?_
  · simp -implicitDefEqProofs (disch := omega) only [go_sem]
  · show _ ≤ η.nx + 1; omega
  · intro b hb; simp -implicitDefEqProofs (disch := omega) only [go_sem]
  rintro m φ η1 ⟨i, T, s1, s2, s3, s4, s6, hm, hi, p0, p3, p4, p5, hX, hXn, ⟨g1, g2, g3, g4, g6⟩, hk⟩
  generalize hXX : η.nx = X at *
  by_cases hlt2 : i < v.length
  · have r16 : repL 4 [AV.int .i64 0, .int .i64 0, .int .i64 0, .int .i64 0] = [.int .i64 0, .int .i64 0, .int .i64 0, .int .i64 0, .int .i64 0, .int .i64 0, .int .i64 0, .int .i64 0, .int .i64 0, .int .i64 0, .int .i64 0, .int .i64 0, .int .i64 0, .int .i64 0, .int .i64 0, .int .i64 0] := rfl
    simp -implicitDefEqProofs (disch := omega) only [go_sem, p0, p3, p4, p5, hX]
    refine thenN_grow (T := T) (t := 1) (lo := X + 1) (by decide) (g1.fresh) (RdA.lits rfl) (by decide) (by omega) ?_ fun ζ2 G1 n2 k2 j2 => ?_
    · show _ ≤ η1.nx + 1; omega
    have x2 : ζ2.f X = .live false [s1, s2, s3, s4, .nilslice, s6] := by rw [j2 X (Nat.lt_succ_self _)]; simp -implicitDefEqProofs (disch := omega) only [go_sem, hX]
    have g2 := g2.over (z := .live false [.slice (η1.nx + 1) 0 (i + 1) (.un 1), s2, s3, s4, .nilslice, s6]) (by decide) (Nat.lt_succ_self X) n2 k2
    have g3 := g3.over (z := .live false [.slice (η1.nx + 1) 0 (i + 1) (.un 1), s2, s3, s4, .nilslice, s6]) (by decide) (Nat.lt_succ_self X) n2 k2
    have g4 := g4.over (z := .live false [.slice (η1.nx + 1) 0 (i + 1) (.un 1), s2, s3, s4, .nilslice, s6]) (by decide) (Nat.lt_succ_self X) n2 k2
    have g6 := g6.over (z := .live false [.slice (η1.nx + 1) 0 (i + 1) (.un 1), s2, s3, s4, .nilslice, s6]) (by decide) (Nat.lt_succ_self X) n2 k2
    have g1 := G1.put (z := .live false [.slice (η1.nx + 1) 0 (i + 1) (.un 1), s2, s3, s4, .nilslice, s6]) (Nat.lt_succ_self X)
    have n2 : ζ2.nx = η1.nx + 2 := n2
    simp -implicitDefEqProofs (disch := omega) only [go_sem, p0, p3, p4, p5, x2]
    refine thenN_grow (T := (tagN T (η1.nx + 1) 1)) (t := 2) (lo := X + 1) (by decide) (g2.fresh) (RdA.lits rfl) (by decide) (by omega) ?_ fun ζ3 G2 n3 k3 j3 => ?_
    · show _ ≤ ζ2.nx + 1; omega
    have x3 : ζ3.f X = .live false [.slice (η1.nx + 1) 0 (i + 1) (.un 1), s2, s3, s4, .nilslice, s6] := by rw [j3 X (Nat.lt_succ_self _)]; simp -implicitDefEqProofs (disch := omega) only [go_sem]
    have g1 := g1.over (z := .live false [.slice (η1.nx + 1) 0 (i + 1) (.un 1), .slice (ζ2.nx + 1) 0 (i + 1) (.un 1), s3, s4, .nilslice, s6]) (by decide) (Nat.lt_succ_self X) n3 k3
    have g3 := g3.over (z := .live false [.slice (η1.nx + 1) 0 (i + 1) (.un 1), .slice (ζ2.nx + 1) 0 (i + 1) (.un 1), s3, s4, .nilslice, s6]) (by decide) (Nat.lt_succ_self X) n3 k3
    have g4 := g4.over (z := .live false [.slice (η1.nx + 1) 0 (i + 1) (.un 1), .slice (ζ2.nx + 1) 0 (i + 1) (.un 1), s3, s4, .nilslice, s6]) (by decide) (Nat.lt_succ_self X) n3 k3
    have g6 := g6.over (z := .live false [.slice (η1.nx + 1) 0 (i + 1) (.un 1), .slice (ζ2.nx + 1) 0 (i + 1) (.un 1), s3, s4, .nilslice, s6]) (by decide) (Nat.lt_succ_self X) n3 k3
    have g2 := G2.put (z := .live false [.slice (η1.nx + 1) 0 (i + 1) (.un 1), .slice (ζ2.nx + 1) 0 (i + 1) (.un 1), s3, s4, .nilslice, s6]) (Nat.lt_succ_self X)
    have n3 : ζ3.nx = ζ2.nx + 2 := n3
    simp -implicitDefEqProofs (disch := omega) only [go_sem, p0, p3, p4, p5, x3]
    refine thenN_grow (T := (tagN (tagN T (η1.nx + 1) 1) (ζ2.nx + 1) 2)) (t := 3) (lo := X + 1) (by decide) (g3.fresh) (RdA.lits rfl) (by decide) (by omega) ?_ fun ζ4 G3 n4 k4 j4 => ?_
    · show _ ≤ ζ3.nx + 1; omega
    have x4 : ζ4.f X = .live false [.slice (η1.nx + 1) 0 (i + 1) (.un 1), .slice (ζ2.nx + 1) 0 (i + 1) (.un 1), s3, s4, .nilslice, s6] := by rw [j4 X (Nat.lt_succ_self _)]; simp -implicitDefEqProofs (disch := omega) only [go_sem]
    have g1 := g1.over (z := .live false [.slice (η1.nx + 1) 0 (i + 1) (.un 1), .slice (ζ2.nx + 1) 0 (i + 1) (.un 1), .slice (ζ3.nx + 1) 0 (i + 1) (.un 1), s4, .nilslice, s6]) (by decide) (Nat.lt_succ_self X) n4 k4
    have g2 := g2.over (z := .live false [.slice (η1.nx + 1) 0 (i + 1) (.un 1), .slice (ζ2.nx + 1) 0 (i + 1) (.un 1), .slice (ζ3.nx + 1) 0 (i + 1) (.un 1), s4, .nilslice, s6]) (by decide) (Nat.lt_succ_self X) n4 k4
    have g4 := g4.over (z := .live false [.slice (η1.nx + 1) 0 (i + 1) (.un 1), .slice (ζ2.nx + 1) 0 (i + 1) (.un 1), .slice (ζ3.nx + 1) 0 (i + 1) (.un 1), s4, .nilslice, s6]) (by decide) (Nat.lt_succ_self X) n4 k4
    have g6 := g6.over (z := .live false [.slice (η1.nx + 1) 0 (i + 1) (.un 1), .slice (ζ2.nx + 1) 0 (i + 1) (.un 1), .slice (ζ3.nx + 1) 0 (i + 1) (.un 1), s4, .nilslice, s6]) (by decide) (Nat.lt_succ_self X) n4 k4
    have g3 := G3.put (z := .live false [.slice (η1.nx + 1) 0 (i + 1) (.un 1), .slice (ζ2.nx + 1) 0 (i + 1) (.un 1), .slice (ζ3.nx + 1) 0 (i + 1) (.un 1), s4, .nilslice, s6]) (Nat.lt_succ_self X)
    have n4 : ζ4.nx = ζ3.nx + 2 := n4
    simp -implicitDefEqProofs (disch := omega) only [go_sem, p0, p3, p4, p5, x4]
    refine thenN_grow (T := (tagN (tagN (tagN T (η1.nx + 1) 1) (ζ2.nx + 1) 2) (ζ3.nx + 1) 3)) (t := 4) (lo := X + 1) (by decide) (g4.fresh) (RdA.lits rfl) (by decide) (by omega) ?_ fun ζ5 G4 n5 k5 j5 => ?_
    · show _ ≤ ζ4.nx + 1; omega
    have x5 : ζ5.f X = .live false [.slice (η1.nx + 1) 0 (i + 1) (.un 1), .slice (ζ2.nx + 1) 0 (i + 1) (.un 1), .slice (ζ3.nx + 1) 0 (i + 1) (.un 1), s4, .nilslice, s6] := by rw [j5 X (Nat.lt_succ_self _)]; simp -implicitDefEqProofs (disch := omega) only [go_sem]
    have g1 := g1.over (z := .live false [.slice (η1.nx + 1) 0 (i + 1) (.un 1), .slice (ζ2.nx + 1) 0 (i + 1) (.un 1), .slice (ζ3.nx + 1) 0 (i + 1) (.un 1), .slice (ζ4.nx + 1) 0 (i + 1) (.un 1), .nilslice, s6]) (by decide) (Nat.lt_succ_self X) n5 k5
    have g2 := g2.over (z := .live false [.slice (η1.nx + 1) 0 (i + 1) (.un 1), .slice (ζ2.nx + 1) 0 (i + 1) (.un 1), .slice (ζ3.nx + 1) 0 (i + 1) (.un 1), .slice (ζ4.nx + 1) 0 (i + 1) (.un 1), .nilslice, s6]) (by decide) (Nat.lt_succ_self X) n5 k5
    have g3 := g3.over (z := .live false [.slice (η1.nx + 1) 0 (i + 1) (.un 1), .slice (ζ2.nx + 1) 0 (i + 1) (.un 1), .slice (ζ3.nx + 1) 0 (i + 1) (.un 1), .slice (ζ4.nx + 1) 0 (i + 1) (.un 1), .nilslice, s6]) (by decide) (Nat.lt_succ_self X) n5 k5
    have g6 := g6.over (z := .live false [.slice (η1.nx + 1) 0 (i + 1) (.un 1), .slice (ζ2.nx + 1) 0 (i + 1) (.un 1), .slice (ζ3.nx + 1) 0 (i + 1) (.un 1), .slice (ζ4.nx + 1) 0 (i + 1) (.un 1), .nilslice, s6]) (by decide) (Nat.lt_succ_self X) n5 k5
    have g4 := G4.put (z := .live false [.slice (η1.nx + 1) 0 (i + 1) (.un 1), .slice (ζ2.nx + 1) 0 (i + 1) (.un 1), .slice (ζ3.nx + 1) 0 (i + 1) (.un 1), .slice (ζ4.nx + 1) 0 (i + 1) (.un 1), .nilslice, s6]) (Nat.lt_succ_self X)
    have n5 : ζ5.nx = ζ4.nx + 2 := n5
    simp -implicitDefEqProofs (disch := omega) only [go_sem, p0, p3, p4, p5, x5, r16, setsL_step, Nat.reduceMul, Nat.reduceAdd]
    refine thenN_grow (T := (tagN (tagN (tagN (tagN T (η1.nx + 1) 1) (ζ2.nx + 1) 2) (ζ3.nx + 1) 3) (ζ4.nx + 1) 4)) (t := 6) (lo := X + 1) (by decide) (g6.fresh) (RdA.lits rfl) (by decide) (by omega) ?_ fun ζ6 G6 n6 k6 j6 => ?_
    · show _ ≤ ζ5.nx + 1; omega
    have x6 : ζ6.f X = .live false [.slice (η1.nx + 1) 0 (i + 1) (.un 1), .slice (ζ2.nx + 1) 0 (i + 1) (.un 1), .slice (ζ3.nx + 1) 0 (i + 1) (.un 1), .slice (ζ4.nx + 1) 0 (i + 1) (.un 1), .nilslice, s6] := by rw [j6 X (Nat.lt_succ_self _)]; simp -implicitDefEqProofs (disch := omega) only [go_sem]
    have g1 := g1.over (z := .live false [.slice (η1.nx + 1) 0 (i + 1) (.un 1), .slice (ζ2.nx + 1) 0 (i + 1) (.un 1), .slice (ζ3.nx + 1) 0 (i + 1) (.un 1), .slice (ζ4.nx + 1) 0 (i + 1) (.un 1), .nilslice, .slice (ζ5.nx + 1) 0 (4 * i + 4) (.un 4)]) (by decide) (Nat.lt_succ_self X) n6 k6
    have g2 := g2.over (z := .live false [.slice (η1.nx + 1) 0 (i + 1) (.un 1), .slice (ζ2.nx + 1) 0 (i + 1) (.un 1), .slice (ζ3.nx + 1) 0 (i + 1) (.un 1), .slice (ζ4.nx + 1) 0 (i + 1) (.un 1), .nilslice, .slice (ζ5.nx + 1) 0 (4 * i + 4) (.un 4)]) (by decide) (Nat.lt_succ_self X) n6 k6
    have g3 := g3.over (z := .live false [.slice (η1.nx + 1) 0 (i + 1) (.un 1), .slice (ζ2.nx + 1) 0 (i + 1) (.un 1), .slice (ζ3.nx + 1) 0 (i + 1) (.un 1), .slice (ζ4.nx + 1) 0 (i + 1) (.un 1), .nilslice, .slice (ζ5.nx + 1) 0 (4 * i + 4) (.un 4)]) (by decide) (Nat.lt_succ_self X) n6 k6
    have g4 := g4.over (z := .live false [.slice (η1.nx + 1) 0 (i + 1) (.un 1), .slice (ζ2.nx + 1) 0 (i + 1) (.un 1), .slice (ζ3.nx + 1) 0 (i + 1) (.un 1), .slice (ζ4.nx + 1) 0 (i + 1) (.un 1), .nilslice, .slice (ζ5.nx + 1) 0 (4 * i + 4) (.un 4)]) (by decide) (Nat.lt_succ_self X) n6 k6
    have g6 := G6.put (z := .live false [.slice (η1.nx + 1) 0 (i + 1) (.un 1), .slice (ζ2.nx + 1) 0 (i + 1) (.un 1), .slice (ζ3.nx + 1) 0 (i + 1) (.un 1), .slice (ζ4.nx + 1) 0 (i + 1) (.un 1), .nilslice, .slice (ζ5.nx + 1) 0 (4 * i + 4) (.un 4)]) (Nat.lt_succ_self X)
    have n6 : ζ6.nx = ζ5.nx + 2 := n6
    simp -implicitDefEqProofs (disch := omega) only [go_sem, p0, p3, p4, p5, x6]
    have e2 : ∀ b, b < X → ζ2.f b = η1.f b := fun b hb => by rw [j2 b (by omega)]; simp -implicitDefEqProofs (disch := omega) only [go_sem]
    have e3 : ∀ b, b < X → ζ3.f b = ζ2.f b := fun b hb => by rw [j3 b (by omega)]; simp -implicitDefEqProofs (disch := omega) only [go_sem]
    have e4 : ∀ b, b < X → ζ4.f b = ζ3.f b := fun b hb => by rw [j4 b (by omega)]; simp -implicitDefEqProofs (disch := omega) only [go_sem]
    have e5 : ∀ b, b < X → ζ5.f b = ζ4.f b := fun b hb => by rw [j5 b (by omega)]; simp -implicitDefEqProofs (disch := omega) only [go_sem]
    have e6 : ∀ b, b < X → ζ6.f b = ζ5.f b := fun b hb => by rw [j6 b (by omega)]; simp -implicitDefEqProofs (disch := omega) only [go_sem]
    rw [twos] at g1 g2 g3 g4
    rw [show v.length - 1 - i = v.length - 1 - i from rfl, fours _ _ hlt2] at g6
    refine ⟨v.length - (i + 1), by omega, i + 1, _, _, _, _, _, _, rfl, by omega, p0, p3, p4, rfl, by show (if X = X then _ else _) = _; rw [if_pos rfl]; rfl, by show _ ≤ ζ6.nx; omega, ⟨g1, g2, g3, g4, g6⟩, fun b hb => ?_⟩
    show (if b = X then _ else ζ6.f b) = _
    rw [if_neg (by omega), e6 b hb, e5 b hb, e4 b hb, e3 b hb, e2 b hb]
    exact hk b hb
  · obtain rfl : i = v.length := by omega
    simp -implicitDefEqProofs (disch := omega) only [go_sem, p0, p3, p4, p5, hX]
    have lr : (List.replicate v.length 2).length = v.length := List.length_replicate
    have lc := manyC_len v.length v.length
    have hf : Fine (manyP v.length) := by
      refine ⟨⟨by show (List.replicate v.length 2).length ≤ _; omega, ?_⟩, ⟨by show (List.replicate v.length 2).length ≤ _; omega, ?_⟩, ⟨by show (List.replicate v.length 2).length ≤ _; omega, ?_⟩, ⟨by show (List.replicate v.length 2).length ≤ _; omega, ?_⟩, ⟨by show 0 ≤ _; omega, fun n hn => by cases hn⟩, ⟨by show (manyC v.length v.length).length ≤ _; omega, fun q hq => ?_⟩⟩
      · intro n hn; have := (List.mem_replicate.1 hn).2; omega
      · intro n hn; have := (List.mem_replicate.1 hn).2; omega
      · intro n hn; have := (List.mem_replicate.1 hn).2; omega
      · intro n hn; have := (List.mem_replicate.1 hn).2; omega
      · obtain ⟨j, hj, rfl⟩ := List.getElem_of_mem hq
        obtain ⟨a, r, h1, h2, h3, h4⟩ := manyC_at v.length v.length j hj
        rw [show (manyP v.length).code[j] = _ from h4 (by show r < 4; omega)]
        have : r = 0 ∨ r = 1 ∨ r = 2 ∨ r = 3 := by omega
        rcases this with rfl | rfl | rfl | rfl <;> (simp [manyI]; omega)
    have hck := many_check (n := v.length) ⟨by omega, by omega⟩
    have q1 : RdI .i64 η1 s1 (List.replicate v.length 2) := RdA.toI (by rw [lr]; exact g1.own.rd)
    have q2 : RdI .i64 η1 s2 (List.replicate v.length 2) := RdA.toI (by rw [lr]; exact g2.own.rd)
    have q3 : RdI .i64 η1 s3 (List.replicate v.length 2) := RdA.toI (by rw [lr]; exact g3.own.rd)
    have q4 : RdI .i64 η1 s4 (List.replicate v.length 2) := RdA.toI (by rw [lr]; exact g4.own.rd)
    have q6 : RdC η1 s6 (manyC v.length v.length) := RdA.toC (by rw [lc]; exact g6.own.rd)
    have EX : ∀ η', (∀ b, b < X → η'.f b = η1.f b) → η.nx ≤ η'.nx → RdI .i64 η' y v := fun η' h1 h2 => RdR.ext (base := η.nx) hy ⟨h2, fun b hb => (h1 b (by omega)).trans (hk b (by omega))⟩
    refine thenN_call (new_then U (z := ⟨s1, s2, s3, s4, .nilslice, s6⟩) (p := manyP v.length) ⟨q1, q2, q3, q4, .inl ⟨rfl, .inl rfl⟩, q6⟩ hf (fun h => absurd hck h) fun _ lo hi z' mp mb η3 M hlo E3 => ?_)
    have x3 := (E3.2 X (by omega)).trans hX
    have l5 := rdI_len q1 (by omega)
    rw [lr] at l5
    have m2 := M.at_
    have m3 := M.mat
    have n3 := E3.1
    simp -implicitDefEqProofs (disch := omega) only [go_sem, x3, p0, p3, p4, l5]
    refine thenN_call (step_then U (inn := v) M hf hck (fun η5 n5 k5 => EX η5 (fun b hb => (k5 b (by omega) (by omega) (by omega)).trans (E3.2 b (by omega))) (by omega)) ⟨hl, hlt⟩ (by decide) (fun h => ?_) fun _ ya η5 M5 O5 n5 k5 => ?_)
    · rw [many_fit v.length v rfl] at h; cases h
    obtain ⟨w1, w2, w3⟩ := many_step v.length (List.replicate v.length 0) v List.length_replicate rfl
    rw [show (manyP v.length).mems.length = v.length from lr] at M5 O5
    simp -implicitDefEqProofs (disch := omega) only [go_sem, p0, p3, p4]
    refine thenN_call (step_then U (inn := v) M5 hf hck (fun η6 n6 k6 => EX η6 (fun b hb => (k6 b (by omega) (by omega) (by omega)).trans ((k5 b (by omega) (by omega) (by omega)).trans (E3.2 b (by omega)))) (by omega)) ⟨hl, hlt⟩ (by decide) (fun h => ?_) fun _ yb η7 M7 O7 n7 k7 => ?_)
    · rw [many_fit v.length v rfl] at h; cases h
    have O5 : OutAt η3.nx η7 ya _ := O5.keep n7 fun b h1 h2 => k7 b h2 (by omega) (by omega)
    have la := rdI_len9 O5.rd (by rw [w1]; exact hl)
    have lb := rdI_len9 O7.rd (by rw [(many_step v.length _ v w2 rfl).1]; exact hl)
    rw [w1] at la
    rw [(many_step v.length _ v w2 rfl).1] at lb
    simp -implicitDefEqProofs (disch := omega) only [go_sem, p0, p3, p4, la, lb]
    have m7 := M7.mat
    refine wpN_loop (MoI y ya v.length mp η7) v.length ⟨rfl, 0, rfl, Nat.zero_le _, p0, p3, rfl, rfl, rfl⟩ ?_
    rintro m2 φ2 η8 ⟨rfl, i, hm2, hi2, r0, r3, r6, r8, r12⟩
    by_cases hlt3 : i < v.length
    · obtain ⟨b, off, cap, ro, row, ye, hb, hbn, hr⟩ := (O5.rd).at (i := i) (by omega)
      have hw := w3 i hlt3
      rw [List.getD_eq_getElem?_getD, List.getElem?_eq_getElem (by omega)] at hw
      have hw : (stepM (manyP v.length) (List.replicate v.length 0) v).outs[i]'(by omega) = _ := hw
      rw [hw] at hr
      rw [ye] at r8
      rw [w1] at r8
      by_cases hgt : v.length - 1 - i < i
      · obtain ⟨b2, off2, cap2, ro2, row2, ye2, hb2, hbn2, hr2⟩ := (EX η8 (fun b hb => (k7 b (by omega) (by omega) (by omega)).trans ((k5 b (by omega) (by omega) (by omega)).trans (E3.2 b (by omega)))) (by omega)).at (i := v.length - 1 - i) (by omega)
        rw [if_pos hgt, getD_get _ _ (show v.length - 1 - i < v.length by omega)] at hr
        rw [ye2] at r0
        simp -implicitDefEqProofs (disch := omega) only [go_sem, r0, r3, r6, r8, r12, hb, hr, hb2, hr2]
        exact ⟨v.length - (i + 1), by omega, rfl, i + 1, rfl, by omega, ye2 ▸ r0, r3, r6, by rw [ye, w1]; exact r8, rfl⟩
      · rw [if_neg hgt, show (List.replicate v.length 0).getD i 0 = 0 from getD_rep] at hr
        simp -implicitDefEqProofs (disch := omega) only [go_sem, r0, r3, r6, r8, r12, hb, hr]
        exact ⟨v.length - (i + 1), by omega, rfl, i + 1, rfl, by omega, r0, r3, r6, by rw [ye, w1]; exact r8, rfl⟩
    · obtain rfl : i = v.length := by omega
      have wl := (many_step v.length _ v w2 rfl).2.1
      simp -implicitDefEqProofs (disch := omega) only [go_sem, r0, r3, r6, r8, r12]
      refine thenN_call (state_then U M7 (by omega) fun vs η9 o9 E9 => ?_)
      have ls := nums_len (stepM (manyP v.length) (stepM (manyP v.length) (List.replicate v.length 0) v).mems v).mems
      have lu := uv_len (stepM (manyP v.length) (stepM (manyP v.length) (List.replicate v.length 0) v).mems v).mems.length
      have lt := uv_len (0 + 1 + 1)
      have hlen : (stateB (0 + 1 + 1) (stepM (manyP v.length) (stepM (manyP v.length) (List.replicate v.length 0) v).mems v).mems).length ≤ 9223372036854775807 ∧ v.length < (stateB (0 + 1 + 1) (stepM (manyP v.length) (stepM (manyP v.length) (List.replicate v.length 0) v).mems v).mems).length := by
        unfold stateB
        rw [List.length_append, List.length_append]
        omega
      generalize stateB (0 + 1 + 1) (stepM (manyP v.length) (stepM (manyP v.length) (List.replicate v.length 0) v).mems v).mems = S at o9 hlen
      have lz : ∀ e y' η', lenN (.slice e 1 y') vs η' = .ok (.int .i64 S.length) η' := fun e y' η' => o9.len hlen.1
      obtain ⟨hl1, hl2⟩ := hlen
      simp -implicitDefEqProofs (disch := omega) only [go_sem, r3, lz]
end Go.Proofs.Ytjljolnhmmbkoaa
namespace Go.Proofs.Ytjljolnhmmbkoaa.machMany
open Go.ChangeShapes Go.WideShapes Go.ChangeAt Go.RowKit
set_option autoImplicit false
set_option linter.unusedVariables false

theorem own : ownKnob Try.prog.godebug = none := by kernel_rfl
theorem laid : laidOutB Try.prog = true := by kernel_rfl
theorem reads29 : Try.prog.readableRec 29 = true := by kernel_rfl
theorem row29 : 29 < Try.prog.types.size := Nat.le_of_ble_eq_true (by kernel_rfl)
set_option maxRecDepth 100000 in
theorem walk {H : Type} {enc : TypeId × Value → H} {W : World} {base : Nat} {v0 : Value} {d0 : DataW H} {ps0 : List MemPlace} (o0 : Value.okWide Try.prog W .any base 29 v0) (h0 : DataW.Trod enc Try.prog W 0 (fun _ => true) true 29 v0 d0 ps0) :
    Calls Try.prog 15 #[v0] W fun e w' => e = .returned (.bool true) ∧ Eng.Kept W w' := by
  obtain ⟨bs, x, zs, hb, vl, rep0⟩ := Eng.LayC.done (Eng.lay_slice 6 plain29 Try.underlying29 o0 h0)
  obtain ⟨y0, l0, rfl, hy0, hl0, ht0⟩ := rep_ints (m := 4) Try.underlying29 Try.underlying2 cells2 rep0
  obtain ⟨r, η', hc, rfl⟩ := many_spec usual3 wakes3 (Eng.startH Try.prog bs) y0 l0 hy0 hl0 ht0
  refine (Eng.law_calls (us := [v0]) good nat3_ok hc (w := W) (x := x) hb vl).mono fun e w' ⟨u, ρ', he, hu, hk⟩ => ?_
  letI : Eng.Deep := ⟨0, 0⟩
  letI : Eng.Env := Eng.noEnv
  rw [Eng.VR_bool.1 hu] at he
  exact ⟨he, hk⟩

/-! ### The row's step -/
set_option maxRecDepth 100000 in
theorem lifted (os : Os) (started : os.Started) (H : Type) (enc : TypeId × Value → H) :
    ReturnsInHanded {} Try.checked os 15 .any (Rows.machManySpec.pre6 enc Try.prog Try.f15 Rows.machManyRow.domain false) (Rows.machManySpec.post enc Try.prog Try.f15 false true false false) := by
  refine returnsInHanded_of_change (C := Try.checked) own started (by kernel_rfl) Try.func15
    (ChangeSpec.witness6 (enc := enc) (C := Try.checked) false ⟨#[], #[.slice none 0 0], []⟩ 8 (by kernel_rfl) (by kernel_rfl) (by kernel_rfl) (by kernel_rfl)) ?_
  intro W base args ds gs before hval0 hW hcnd _
  have hval : ∀ (j : Nat) t v, Try.f15.params[j]? = some t → args[j]? = some v → Value.okWide Try.prog W .any base t v := hval0
  have hW' := hW
  obtain ⟨p, q, hA0, hV, rfl, hfz, hnd⟩ := hW
  have hA : DataW.TrodAll enc Try.prog W 0 (fun _ => true) true Try.f15.params.toList args.toList ds p := hA0
  rw [Try.params15] at hA hval
  obtain ⟨v0, vs0, d0, ds0, p0, q0, hargs, rfl, rfl, h0, r0⟩ := trodAll_cons hA
  obtain ⟨rfl, rfl, rfl⟩ := trodAll_nil r0
  obtain rfl : args = #[v0] := by cases args; simp_all
  obtain ⟨rfl, rfl⟩ := trodVars_none hV
  have o0 := hval 0 29 v0 rfl rfl
  clear hA0 hval0
  simp only [List.append_nil] at hW'
  refine (walk o0 h0).mono fun e W' ⟨he, hg⟩ => ?_
  subst he
  letI : Eng.Deep := ⟨0, 0⟩
  letI : Eng.Env := Eng.noEnv
  exact ⟨_, rfl, Eng.post_of_kept (pa := p0) (pv := []) hW' (fun _ _ => (trodAll_cons_mk (shut_bool Try.underlying4 _) trodAll_mk0))
    (fun sp hsp => by
      have q := (trodAll_cons_mk (Eng.trod_keep (sp := sp) laid reads29 row29 h0 hg fun q hq => hsp q (by simp [hq])) trodAll_mk0)
      simp only [List.append_nil] at q
      rw [Try.params15]; exact q) (fun _ _ => rfl) (by simp) hg⟩

theorem over : Rows.machManyRow.holds Try.pinned (OpenSpec.ofChange Rows.machManySpec) :=
  OpenClaim.holds_of_wide 15 Try.f15 rfl rfl rfl rfl rfl rfl rfl ⟨rfl, rfl, rfl, rfl, rfl⟩ rfl rfl rfl rfl rfl (by kernel_rfl) Try.func15 (by kernel_rfl)
    (of_decide_eq_true (by kernel_rfl)) (by unfold Func.isWrapper; first | (rw [if_pos (by decide +kernel)]; kernel_rfl) | (rw [if_neg (by decide +kernel)]; exact ⟨rfl, rfl⟩))
    (fun os started H enc _ => lifted os started H enc)

/-- the statement -/
theorem proved : Rows.MachManySaid :=
  over
#print axioms proved
end Go.Proofs.Ytjljolnhmmbkoaa.machMany
