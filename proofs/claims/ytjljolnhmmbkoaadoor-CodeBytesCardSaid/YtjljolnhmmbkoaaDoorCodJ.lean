/- What is proved: how code.Show shows an instruction. how the document shows an instruction. Conditions: as each theorem says. -/
import Derived.Test.YtjljolnhmmbkoaaDoorCodI
import Derived.Test.YtjljolnhmmbkoaaDoorCodB
set_option linter.unusedVariables false
set_option linter.unusedSimpArgs false
set_option linter.unusedSectionVars false
namespace Go.Eng
set_option autoImplicit false
/-- a slice of one cell that is full grows by one -/
theorem app_full1 {w b : Nat} {η : HN} {y a v : AV} (hf : η.f b = .live false [a]) (hy : RdA 1 η y 1 [v]) (hw : 2 * w ≤ 140737488355328) : apSrcN 1 w (.slice b 0 1 (.kn 1)) y η = .ok (.slice η.nx 0 2 (.un 1)) (η.new (.live false [a, v])) := by
  rcases hy with ⟨h, _⟩ | ⟨b2, off, cap, ro, row, rfl, h1, _, h2, h3, h4⟩
  · cases h
  · rw [apSrc_sl, if_neg (by decide), h1, rowN_at, if_pos h2, h4]
    show (if (1 + 1) * w ≤ _ then (if 1 = 0 then _ else apKn b 0 1 1 1 1 [v] (η.f b) η) else _) = _
    rw [if_pos (by omega), if_neg (by decide), apKn_new (by decide), hf, rowN_at, if_pos (show 0 + 1 * 1 ≤ [a].length from Nat.le_refl 1)]
    simp [apNewN]
end Go.Eng
namespace Go.Proofs.YtjljolnhmmbkoaaDoor
open Go.Eng Go.Plain
set_option autoImplicit false
set_option maxRecDepth 100000
variable {nat : ∀ [Deep], Nats}
attribute [local irreducible] wpN
def showL (i : Ins) : List Nat := if i.op < 21 then joinN (nmF i.op :: ([i.a, i.b, i.c].take (nOps i.op)).map itoaL) else []
theorem nOps_cases {op : Nat} (h : op < 21) : nOps op = 1 ∨ nOps op = 2 ∨ nOps op = 3 := by
  unfold nOps
  split
  · split <;> simp
  · rw [if_pos (by omega)]; simp
theorem str_empty {l : List Nat} (h : 2 ≤ l.length) : strEq l.length (bV l) 0 0 = false := by
  unfold strEq
  rw [beq_false.2 (by omega), ifB_false]
set_option maxHeartbeats 4000000 in
theorem show_then (U : Usual nat) (X : ShowCtx nat) {η : HN} {i : Ins} {Q : AV → HN → Prop} (ht : η.f 0 = .live true tabR) (h0 : 0 < η.nx) (hi : i.op < 18446744073709551616 ∧ i.a < 18446744073709551616 ∧ i.b < 18446744073709551616 ∧ i.c < 18446744073709551616)
    (h : ∀ η', ExtB η.nx η η' → Q (.str (showL i).length (bV (showL i))) η') : ∃ v η', CallN Tryd.prog nat 12 [.agg i.cells] η v η' ∧ Q v η' := by
  refine call_of (PT := pl12) Tryd.func12 rfl (U 12 (by decide)) ok12 rfl ?_
  obtain ⟨op, a, b, c⟩ := i
  obtain ⟨ho, ha, hb, hc⟩ := hi
  dsimp only at ho ha hb hc
  unfold Ins.cells
  dsimp only
  have E0 : ExtB η.nx η (η.new (.live false [AV.int .i64 op, .int .i64 a, .int .i64 b, .int .i64 c])) := extN (.refl _ _)
  have x0 : (η.new (.live false [AV.int .i64 op, .int .i64 a, .int .i64 b, .int .i64 c])).f η.nx = .live false [AV.int .i64 op, .int .i64 a, .int .i64 b, .int .i64 c] := by show (if η.nx = η.nx then _ else _) = _; rw [if_pos rfl]
  have n0 : (η.new (.live false [AV.int .i64 op, .int .i64 a, .int .i64 b, .int .i64 c])).nx = η.nx + 1 := rfl
  simp -implicitDefEqProofs (disch := omega) only [go_sem]
  generalize η.new (.live false [AV.int .i64 op, .int .i64 a, .int .i64 b, .int .i64 c]) = ζ0 at *
  refine thenN_call (name_then U ho fun ζ1 E1 => ?_)
  have x1 := (E1.2 η.nx (by omega)).trans x0
  have n1 := E1.1
  have F1 := E0.trans (E1.mono E0.1)
  by_cases h21 : ¬ op < 21
  · have s0 : strEq 0 (bV ([] : List Nat)) 0 0 = true := rfl
    rw [nm_none h21]
    simp -implicitDefEqProofs (disch := omega) only [List.length_nil, go_sem]
    rw [s0]
    simp -implicitDefEqProofs (disch := omega) only [go_sem]
    have := h ζ1 F1
    rw [show showL ⟨op, a, b, c⟩ = [] from if_neg h21] at this
    exact this
  have h21 : op < 21 := Decidable.not_not.1 h21
  obtain ⟨hp1, hp2⟩ := nm_pos op h21
  have s0 := str_empty hp1
  simp -implicitDefEqProofs (disch := omega) only [s0, go_sem, x1]
  refine thenN_call (name_then U ho fun ζ2 E2 => ?_)
  have x2 := (E2.2 η.nx (by omega)).trans x1
  have n2 := E2.1
  have F2 := F1.trans (E2.mono F1.1)
  simp -implicitDefEqProofs (disch := omega) only [go_sem, x2]
  have hk := nOps_cases h21
  refine dE_call ⟨_, _, ops_call U h21, ?_⟩
  generalize hS : ζ2.nx + 1 + (1 + 1 + 1 + 1 + 1 + 1) = S at *
  generalize hM : ζ2.nx + 1 + (1 + 1 + 1 + 1 + 1 + 1 + 1 + 1 + 1 + 1 + 1 + 1 + 1) = M at *
  generalize hη3 : ((((ζ2.new (.live false [AV.str (nmF op).length (bV (nmF op))])).at_ S).new (.live false [AV.int .i64 a, .int .i64 b, .int .i64 c])).at_ M) = η3 at *
  have y1 : η3.f S = .live false [AV.int .i64 a, .int .i64 b, .int .i64 c] := by rw [← hη3]; show (if S = S then _ else _) = _; rw [if_pos rfl]
  have y2 : η3.f ζ2.nx = .live false [strA (nmF op)] := by rw [← hη3]; show (if ζ2.nx = S then _ else if ζ2.nx = ζ2.nx then _ else _) = _; rw [if_neg (by omega), if_pos rfl]; rfl
  have y3 : η3.nx = M := by rw [← hη3]; rfl
  have F3 : ExtB η.nx η η3 := by
    refine F2.trans ⟨by rw [y3, ← hM]; omega, fun b hb => ?_⟩
    rw [← hη3]
    show (if b = S then _ else if b = ζ2.nx then _ else _) = _
    have := F2.1
    rw [if_neg (by omega), if_neg (by omega)]
  generalize hk0 : nOps op = k at *
  have hk3 : k ≤ 3 := by omega
  have x3 : η3.f η.nx = .live false [AV.int .i64 op, .int .i64 a, .int .i64 b, .int .i64 c] := by
    rw [← hη3]
    show (if η.nx = S then _ else if η.nx = ζ2.nx then _ else ζ2.f η.nx) = _
    rw [if_neg (by omega), if_neg (by omega), x2]
  simp -implicitDefEqProofs (disch := omega) only [go_sem, x2, x3]
  have hr : ∀ i, i < 3 → [AV.int .i64 a, AV.int .i64 b, AV.int .i64 c][i]? = some (.int .i64 ([a, b, c].getD i 0))
    | 0, _ => rfl
    | 1, _ => rfl
    | 2, _ => rfl
    | n + 3, h => absurd h (by omega)
  have hv : ∀ i, [a, b, c].getD i 0 < 18446744073709551616
    | 0 => ha
    | 1 => hb
    | 2 => hc
    | n + 3 => by show 0 < 18446744073709551616; omega
  have htk : ∀ i, i < 3 → [a, b, c].take (i + 1) = [a, b, c].take i ++ [[a, b, c].getD i 0]
    | 0, _ => rfl
    | 1, _ => rfl
    | 2, _ => rfl
    | n + 3, h => absurd h (by omega)
  have hS2 : S < M := by omega
  have hB2 : ζ2.nx < M := by omega
  obtain ⟨I, hI⟩ : ∃ I : Nat → FN → HN → Prop, ∀ m φ ζ, I m φ ζ ↔ ∃ i x, m = k - i ∧ i ≤ k ∧ φ 24 = .slice S 0 k (.kn 3) ∧ φ 25 = .int .i64 k ∧ φ 26 = .int .i64 i ∧ φ 3 = x ∧ ((i = 0 ∧ x = .slice ζ2.nx 0 1 (.kn 1)) ∨ (0 < i ∧ OwnA 1 M ζ x (1 + i) ((nmF op :: ([a, b, c].take i).map itoaL).map strA))) ∧ ExtB M η3 ζ := ⟨_, fun _ _ _ => Iff.rfl⟩
  refine wpN_loop I k ((hI _ _ _).2 ⟨0, _, rfl, Nat.zero_le _, rfl, rfl, rfl, rfl, .inl ⟨rfl, rfl⟩, .refl _ _⟩) ?_
  intro m φ ζ hi
  obtain ⟨i, x, hm, hi, p24, p25, p26, p3, o, F⟩ := (hI _ _ _).1 hi
  have nF := F.1
  by_cases hlt : i < k
  · have z1 := (F.2 S hS2).trans y1
    have hri := hr i (by omega)
    simp -implicitDefEqProofs (disch := omega) only [go_sem, p24, p25, p26, z1, hri]
    have t0 : ζ.f 0 = .live true tabR := (F.2 0 (by omega)).trans ((F3.2 0 h0).trans ht)
    refine thenN_call (itoa_then U X t0 (by omega) (hv i) fun ζ3 E3 => ?_)
    have G := F.trans (E3.mono (by omega))
    have nG := G.1
    simp -implicitDefEqProofs (disch := omega) only [go_sem, p3]
    have fin : ∀ x' (ζ4 : HN), OwnA 1 M ζ4 x' (1 + (i + 1)) ((nmF op :: ([a, b, c].take (i + 1)).map itoaL).map strA) → ExtB M ζ3 ζ4 → ∀ φ', φ' 24 = .slice S 0 k (.kn 3) → φ' 25 = .int .i64 k → φ' 26 = .int .i64 (i + 1) → φ' 3 = x' → ∃ m', m' < m ∧ I m' φ' ζ4 := fun x' ζ4 o' E4 φ' q1 q2 q3 q4 => ⟨k - (i + 1), by omega, (hI _ _ _).2 ⟨i + 1, x', rfl, by omega, q1, q2, q3, q4, .inr ⟨by omega, o'⟩, G.trans E4⟩⟩
    have hnew : ∀ (y : BN) b, b < ζ3.nx → (ζ3.new y).f b = ζ3.f b := fun y b hb => by show (if b = ζ3.nx then _ else _) = _; rw [if_neg (by omega)]
    rcases o with ⟨rfl, rfl⟩ | ⟨hi0, o⟩
    · rw [app_full1 (w := 16) (b := ζ2.nx) (a := strA (nmF op)) (v := .str (itoaL ([a, b, c].getD 0 0)).length (bV (itoaL ([a, b, c].getD 0 0)))) ((hnew _ _ (by omega)).trans ((G.2 _ hB2).trans y2)) (RdA.lit (c := .kn 1)) (by decide)]
      simp -implicitDefEqProofs (disch := omega) only [go_sem, p24, p25, p26]
      refine fin _ _ ⟨rfl, .inr ⟨ζ3.nx + 1, by omega, Nat.lt_succ_self _, .inr ⟨rfl, ?_⟩⟩⟩ ?_ _ p24 p25 rfl rfl
      · show (if ζ3.nx + 1 = ζ3.nx + 1 then _ else _) = _
        rw [if_pos rfl]; rfl
      · exact (ExtB.new (by omega)).trans (ExtB.new (by show M ≤ ζ3.nx + 1; omega))
    · refine thenN_app (w := 16) (base := M) (by decide) ((o.ext E3).ext (.new (Nat.le_refl _))) (RdA.lit (c := .kn 1)) (by omega) (by show M ≤ ζ3.nx + 1; omega) fun x4 ζ4 o4 E4 => ?_
      simp -implicitDefEqProofs (disch := omega) only [go_sem, p24, p25, p26]
      refine fin x4 ζ4 ?_ ((ExtB.new (by omega)).trans E4) _ p24 p25 rfl rfl
      rw [htk i (by omega), List.map_append, ← List.cons_append, List.map_append]
      exact o4
  · obtain rfl : i = k := by omega
    simp -implicitDefEqProofs (disch := omega) only [go_sem, p24, p25, p26]
    have hi1 : 0 < i := by omega
    rcases o with ⟨h0, _⟩ | ⟨_, o⟩
    · omega
    obtain ⟨ol, ⟨_, o⟩ | ⟨B, b1, b2, ⟨_, o, _⟩ | ⟨o1, o2⟩⟩⟩ := o
    · omega
    · omega
    have hsh : showL ⟨op, a, b, c⟩ = joinN (nmF op :: ([a, b, c].take i).map itoaL) := by
      show (if op < 21 then joinN (nmF op :: ([a, b, c].take (nOps op)).map itoaL) else []) = _
      rw [if_pos h21, hk0]
    have hj : ∀ l : List (List Nat), (∀ s ∈ l, s.length ≤ 21) → ((l.map (32 :: ·)).flatten).length ≤ 22 * l.length := by
      intro l
      induction l with
      | nil => intro _; exact Nat.le_refl _
      | cons s l ih =>
        intro hl
        have := hl s (by simp)
        have := ih fun t ht => hl t (List.mem_cons_of_mem _ ht)
        rw [List.map_cons, List.flatten_cons, List.length_append, List.length_cons, List.length_cons]
        omega
    have hit : ∀ s ∈ ([a, b, c].take i).map itoaL, ∃ v, v < 18446744073709551616 ∧ s = itoaL v := by
      intro s hs
      obtain ⟨v, hv, rfl⟩ := List.mem_map.1 hs
      have := List.mem_of_mem_take hv
      simp only [List.mem_cons, List.not_mem_nil, or_false] at this
      exact ⟨v, by rcases this with rfl | rfl | rfl <;> assumption, rfl⟩
    have ht3 : (([a, b, c].take i).map itoaL).length = i := by rw [List.length_map, List.length_take]; show min i 3 = i; omega
    rw [p3, o1]
    refine thenN_call ⟨_, _, join_call X.h40 (ps := nmF op :: ([a, b, c].take i).map itoaL) o2 (by rw [List.length_cons, ht3]; omega) (by omega) (by omega) ?_ ?_, ?_⟩
    · intro s hs x hx
      rcases List.mem_cons.1 hs with rfl | hs
      · exact nm_lt op h21 x hx
      · obtain ⟨v, _, rfl⟩ := hit s hs
        exact itoaL_lt x hx
    · show (nmF op ++ _).length ≤ 1000
      rw [List.length_append]
      have := hj _ fun s hs => by obtain ⟨v, q, rfl⟩ := hit s hs; exact itoaL_len q
      rw [ht3] at this
      omega
    · simp -implicitDefEqProofs (disch := omega) only [go_sem]
      have := h ζ (F3.trans (F.mono (by have := F3.1; omega)))
      rw [hsh] at this
      exact this
end Go.Proofs.YtjljolnhmmbkoaaDoor
namespace Go.Proofs.YtjljolnhmmbkoaaDoor
open Go.Eng Go.Plain
set_option autoImplicit false
set_option maxRecDepth 100000
variable {nat : ∀ [Deep], Nats}
attribute [local irreducible] wpN
theorem joinN_snoc (p s : List Nat) (r : List (List Nat)) : joinN (p :: (r ++ [s])) = joinN (p :: r) ++ (32 :: s) := by
  show p ++ ((r ++ [s]).map (32 :: ·)).flatten = (p ++ (r.map (32 :: ·)).flatten) ++ (32 :: s)
  rw [List.map_append, List.flatten_append, List.append_assoc]
  simp
theorem join_len (p : List Nat) (hp : p.length ≤ 6) : ∀ l : List (List Nat), (∀ s ∈ l, s.length ≤ 21) → (joinN (p :: l)).length ≤ 6 + 22 * l.length := by
  intro l hl
  have : ((l.map (32 :: ·)).flatten).length ≤ 22 * l.length := by
    induction l with
    | nil => exact Nat.le_refl _
    | cons s l ih =>
      have := hl s (by simp)
      have := ih fun t ht => hl t (List.mem_cons_of_mem _ ht)
      rw [List.map_cons, List.flatten_cons, List.length_append, List.length_cons, List.length_cons]
      omega
  show (p ++ _).length ≤ _
  rw [List.length_append]
  omega
set_option maxHeartbeats 4000000 in
theorem refshow_then (U : Usual nat) (h45 : ∀ [Deep], nat 45 = some (fnNat F45)) {η : HN} {i : Ins} {Q : AV → HN → Prop} (hi : i.op < 18446744073709551616 ∧ i.a < 18446744073709551616 ∧ i.b < 18446744073709551616 ∧ i.c < 18446744073709551616)
    (h : ∀ η', ExtB η.nx η η' → Q (.str (showL i).length (bV (showL i))) η') : ∃ v η', CallN Tryd.prog nat 16 [.agg i.cells] η v η' ∧ Q v η' := by
  refine call_of (PT := pl16) Tryd.func16 rfl (U 16 (by decide)) ok16 rfl ?_
  obtain ⟨op, a, b, c⟩ := i
  obtain ⟨ho, ha, hb, hc⟩ := hi
  dsimp only at ho ha hb hc
  unfold Ins.cells
  dsimp only
  have E0 : ExtB η.nx η (η.new (.live false [AV.int .i64 op, .int .i64 a, .int .i64 b, .int .i64 c])) := extN (.refl _ _)
  have x0 : (η.new (.live false [AV.int .i64 op, .int .i64 a, .int .i64 b, .int .i64 c])).f η.nx = .live false [AV.int .i64 op, .int .i64 a, .int .i64 b, .int .i64 c] := by show (if η.nx = η.nx then _ else _) = _; rw [if_pos rfl]
  have n0 : (η.new (.live false [AV.int .i64 op, .int .i64 a, .int .i64 b, .int .i64 c])).nx = η.nx + 1 := rfl
  simp -implicitDefEqProofs (disch := omega) only [go_sem]
  generalize η.new (.live false [AV.int .i64 op, .int .i64 a, .int .i64 b, .int .i64 c]) = ζ0 at *
  refine thenN_call (refname_then U ho fun ζ1 E1 => ?_)
  have x1 := (E1.2 η.nx (by omega)).trans x0
  have n1 := E1.1
  have F1 := E0.trans (E1.mono E0.1)
  by_cases h21 : ¬ op < 21
  · have s0 : strEq 0 (bV ([] : List Nat)) 0 0 = true := rfl
    rw [nm_none h21]
    simp -implicitDefEqProofs (disch := omega) only [List.length_nil, go_sem]
    rw [s0]
    simp -implicitDefEqProofs (disch := omega) only [go_sem]
    have := h ζ1 F1
    rw [show showL ⟨op, a, b, c⟩ = [] from if_neg h21] at this
    exact this
  have h21 : op < 21 := Decidable.not_not.1 h21
  obtain ⟨hp1, hp2⟩ := nm_pos op h21
  have s0 := str_empty hp1
  simp -implicitDefEqProofs (disch := omega) only [s0, go_sem]
  refine thenN_call (rows_then U fun ζ2 E2 n2 f1 f2 => ?_)
  have x2 := (E2.2 η.nx (by omega)).trans x1
  have F2 := F1.trans (E2.mono F1.1)
  simp -implicitDefEqProofs (disch := omega) only [go_sem, x2]
  have hk := nOps_cases h21
  have hcnt := cntR_at h21
  generalize hk0 : nOps op = k at *
  have hk3 : k ≤ 3 := by omega
  generalize hη3 : ζ2.new (.live false [AV.int .i64 a, .int .i64 b, .int .i64 c]) = η3 at *
  have g : ∀ b, b < ζ2.nx → η3.f b = ζ2.f b := fun b hb => by rw [← hη3]; show (if b = ζ2.nx then _ else _) = _; rw [if_neg (by omega)]
  have g1 := (g η.nx (by omega)).trans x2
  have g2 := (g (ζ1.nx + 1) (by omega)).trans f2
  have g3 : η3.f ζ2.nx = .live false [AV.int .i64 a, .int .i64 b, .int .i64 c] := by rw [← hη3]; show (if ζ2.nx = ζ2.nx then _ else _) = _; rw [if_pos rfl]
  have F3 : ExtB η.nx η η3 := by rw [← hη3]; exact extN F2
  have hr : ∀ i, i < 3 → [AV.int .i64 a, AV.int .i64 b, AV.int .i64 c][i]? = some (.int .i64 ([a, b, c].getD i 0))
    | 0, _ => rfl
    | 1, _ => rfl
    | 2, _ => rfl
    | n + 3, h => absurd h (by omega)
  have hv : ∀ i, [a, b, c].getD i 0 < 18446744073709551616
    | 0 => ha
    | 1 => hb
    | 2 => hc
    | n + 3 => by show 0 < 18446744073709551616; omega
  have htk : ∀ i, i < 3 → [a, b, c].take (i + 1) = [a, b, c].take i ++ [[a, b, c].getD i 0]
    | 0, _ => rfl
    | 1, _ => rfl
    | 2, _ => rfl
    | n + 3, h => absurd h (by omega)
  have hlen : ∀ i, i ≤ 3 → (joinN (nmF op :: ([a, b, c].take i).map itoaL)).length ≤ 72 := by
    intro i hi
    refine Nat.le_trans (join_len _ hp2 _ ?_) ?_
    · intro s hs
      obtain ⟨v, hv, rfl⟩ := List.mem_map.1 hs
      have := List.mem_of_mem_take hv
      simp only [List.mem_cons, List.not_mem_nil, or_false] at this
      refine itoaL_len ?_
      rcases this with rfl | rfl | rfl <;> assumption
    · rw [List.length_map, List.length_take]; show 6 + 22 * min i 3 ≤ 72; omega
  obtain ⟨I, hI⟩ : ∃ I : Nat → FN → HN → Prop, ∀ m φ ζ, I m φ ζ ↔ ∃ i s, m = k - i ∧ i ≤ k ∧ φ 1 = .ptr η.nx 0 ∧ φ 5 = .slice (ζ1.nx + 1) 0 21 (.kn 21) ∧ φ 6 = .slice ζ2.nx 0 3 (.kn 3) ∧ φ 7 = .int .i64 i ∧ φ 3 = .str s.length (bV s) ∧ s = joinN (nmF op :: ([a, b, c].take i).map itoaL) ∧ ζ = η3 := ⟨_, fun _ _ _ => Iff.rfl⟩
  refine wpN_loop I k ((hI _ _ _).2 ⟨0, nmF op, rfl, Nat.zero_le _, rfl, rfl, rfl, rfl, rfl, (List.append_nil _).symm, rfl⟩) ?_
  intro m φ ζ hi
  obtain ⟨i, s, hm, hi, p1, p5, p6, p7, p3, hs, rfl⟩ := (hI _ _ _).1 hi
  have hsl := hlen i (by omega)
  rw [← hs] at hsl
  by_cases hlt : i < k
  · have hri := hr i (by omega)
    simp -implicitDefEqProofs (disch := omega) only [go_sem, p1, p3, p5, p6, p7, g1, g2, g3, hcnt, hri]
    have hc1 : strCat s.length (bV s) 32 = bV (s ++ [32]) := cat_bV s [32]
    refine thenN_call ⟨_, _, text_call h45 (hv i), ?_⟩
    have hil := itoaL_len (hv i)
    have hc2 : strCat (s.length + 1) (bV (s ++ [32])) (bV (itoaL ([a, b, c].getD i 0))) = bV (s ++ [32] ++ itoaL ([a, b, c].getD i 0)) := by
      have := cat_bV (s ++ [32]) (itoaL ([a, b, c].getD i 0))
      rw [List.length_append] at this
      exact this
    simp -implicitDefEqProofs (disch := omega) only [go_sem, p1, p3, p5, p6, p7, hc1, hc2]
    have el : s.length + 1 + (itoaL ([a, b, c].getD i 0)).length = (s ++ [32] ++ itoaL ([a, b, c].getD i 0)).length := by rw [List.length_append, List.length_append]; rfl
    rw [el]
    refine ⟨k - (i + 1), by omega, (hI _ _ _).2 ⟨i + 1, s ++ [32] ++ itoaL ([a, b, c].getD i 0), rfl, by omega, p1, p5, p6, rfl, rfl, ?_, rfl⟩⟩
    rw [htk i (by omega), List.map_append, List.map_cons, List.map_nil, joinN_snoc, ← hs, List.append_assoc]; rfl
  · obtain rfl : i = k := by omega
    simp -implicitDefEqProofs (disch := omega) only [go_sem, p1, p3, p5, p6, p7, g1, g2, g3, hcnt]
    have hsh : showL ⟨op, a, b, c⟩ = joinN (nmF op :: ([a, b, c].take i).map itoaL) := by
      show (if op < 21 then joinN (nmF op :: ([a, b, c].take (nOps op)).map itoaL) else []) = _
      rw [if_pos h21, hk0]
    have := h _ F3
    rw [hsh, ← hs] at this
    exact this
end Go.Proofs.YtjljolnhmmbkoaaDoor
