/- What is proved: MachLoads' walk. MachLoads gives true, whatever its arguments and the world. Conditions: as each theorem says. -/
import Derived.Test.YtjljolnhmmbkoaaMacM
import Derived.Test.YtjljolnhmmbkoaaMacK
import Derived.Test.YtjljolnhmmbkoaaValG
import Derived.Test.YtjljolnhmmbkoaaWake
import Derived.Test.YtjljolnhmmbkoaaMacE
import Derived.Test.YtjljolnhmmbkoaaWJ
import Derived.Test.YtjljolnhmmbkoaaRows
import Derived.WalkKit
import Derived.ProofKit
import Derived.OpenShut
set_option linter.unusedVariables false
set_option linter.unusedSimpArgs false
set_option linter.unusedSectionVars false
namespace Go.Plain
open Go.Eng
set_option autoImplicit false
theorem rdG_back {l : List Nat} {bad : Bool} (hl : ∀ x ∈ l, x < 256) (h : (rdG l bad).2.2 = false) : l = uv (rdG l bad).1 ++ (rdG l bad).2.1 ∧ bad = false := by
 unfold rdG at h ⊢
 cases hq : rdU l with
 | none => rw [hq] at h; cases h
 | some x =>
  obtain ⟨a, b⟩ := x
  rw [hq] at h
  exact ⟨rdU_back hl hq, h⟩
theorem rdN_back : ∀ (n : Nat) (l : List Nat) (bad : Bool), (∀ x ∈ l, x < 256) → (rdN n l bad).2.2 = false → l = nums (rdN n l bad).1 ++ (rdN n l bad).2.1 ∧ bad = false
 | 0, l, bad, _, h => ⟨rfl, h⟩
 | n + 1, l, bad, hl, h => by
  have e : rdN (n + 1) l bad = (uz (rdG l bad).1 :: (rdN n (rdG l bad).2.1 (rdG l bad).2.2).1, (rdN n (rdG l bad).2.1 (rdG l bad).2.2).2) := rfl
  rw [e] at h ⊢
  obtain ⟨h1, h2⟩ := rdN_back n _ _ (fun x hx => hl x (rdG_rest l bad x hx)) h
  obtain ⟨h3, h4⟩ := rdG_back hl h2
  refine ⟨?_, h4⟩
  show l = nums (uz (rdG l bad).1 :: _) ++ _
  have : nums (uz (rdG l bad).1 :: (rdN n (rdG l bad).2.1 (rdG l bad).2.2).1) = uv (zz (uz (rdG l bad).1)) ++ nums (rdN n (rdG l bad).2.1 (rdG l bad).2.2).1 := rfl
  rw [this, zz_uz (rdG_lt l bad), List.append_assoc, ← h1]
  exact h3
theorem loadF_some {mk l vs : List Nat} {t : Nat} (hl : ∀ x ∈ l, x < 256) (h : loadF mk l = some (vs, t)) : l = stateB t vs ∧ KOk mk vs ∧ t ≤ 4611686018427387904 := by
 unfold loadF at h
 dsimp only at h
 split at h
 ·cases h
 rename_i c1
 split at h
 ·cases h
 rename_i c2
 cases h
 have b1 : (rdG (rdG l false).2.1 (rdG l false).2.2).2.2 = false := by
  cases hq : (rdG (rdG l false).2.1 (rdG l false).2.2).2.2 with
  | false => rfl
  | true => exact absurd (.inl hq) c1
 have b2 : (rdN mk.length (rdG (rdG l false).2.1 (rdG l false).2.2).2.1 (rdG (rdG l false).2.1 (rdG l false).2.2).2.2).2.2 = false := by
  cases hq : (rdN mk.length (rdG (rdG l false).2.1 (rdG l false).2.2).2.1 (rdG (rdG l false).2.1 (rdG l false).2.2).2.2).2.2 with
  | false => rfl
  | true => exact absurd (.inl hq) c2
 have b3 : (rdN mk.length (rdG (rdG l false).2.1 (rdG l false).2.2).2.1 (rdG (rdG l false).2.1 (rdG l false).2.2).2.2).2.1 = [] := by
  cases hq : (rdN mk.length (rdG (rdG l false).2.1 (rdG l false).2.2).2.1 (rdG (rdG l false).2.1 (rdG l false).2.2).2.2).2.1 with
  | nil => rfl
  | cons a r => exact absurd (.inr (.inl (by rw [hq]; simp))) c2
 have b4 : fitF mk (rdN mk.length (rdG (rdG l false).2.1 (rdG l false).2.2).2.1 (rdG (rdG l false).2.1 (rdG l false).2.2).2.2).1 = true := by
  cases hq : fitF mk (rdN mk.length (rdG (rdG l false).2.1 (rdG l false).2.2).2.1 (rdG (rdG l false).2.1 (rdG l false).2.2).2.2).1 with
  | true => rfl
  | false => exact absurd (.inr (.inr hq)) c2
 have b5 : (rdG (rdG l false).2.1 (rdG l false).2.2).1 = mk.length := by
  by_cases hq : (rdG (rdG l false).2.1 (rdG l false).2.2).1 = mk.length
  ·exact hq
  ·exact absurd (.inr (.inr hq)) c1
 have hl2 : ∀ x ∈ (rdG l false).2.1, x < 256 := fun x h => hl x (rdG_rest _ _ x h)
 have hl3 : ∀ x ∈ (rdG (rdG l false).2.1 (rdG l false).2.2).2.1, x < 256 := fun x h => hl2 x (rdG_rest _ _ x h)
 obtain ⟨e3, _⟩ := rdN_back _ _ _ hl3 b2
 obtain ⟨e2, f2⟩ := rdG_back hl2 b1
 obtain ⟨e1, _⟩ := rdG_back hl f2
 have ln := rdN_len mk.length (rdG (rdG l false).2.1 (rdG l false).2.2).2.1 (rdG (rdG l false).2.1 (rdG l false).2.2).2.2
 refine ⟨?_, .fit b4, by
  by_cases hq : 4611686018427387904 < (rdG l false).1
  ·exact absurd (.inr (.inl hq)) c1
  ·omega⟩
 unfold stateB
 rw [ln, List.append_assoc]
 rw [b3, List.append_nil] at e3
 rw [← e3, ← b5, ← e2]
 exact e1
end Go.Plain
namespace Go.Proofs.Ytjljolnhmmbkoaa
open Go.Eng Go.Plain
set_option autoImplicit false
set_option maxRecDepth 100000
variable {nat : ∀ [Deep], Nats}
set_option maxHeartbeats 8000000 in
theorem loads_spec (U : Usual nat) (h22 : Wakes nat) (η : HN) (z : PV) (p : PD) (hp : IsP η z p) (hr : Resd p) (yb : AV) (l : List Nat) (hyb : RdA 1 η yb l.length (u8s l)) (hlb : l.length ≤ 9223372036854775807) (hbt : ∀ n ∈ l, n < 256) (ya : AV) (A : List (AV × List Nat)) (hya : RowsAt η ya A) (hla : A.length ≤ 9223372036854775807) :
  ∃ r η', CallN Try.prog nat 10 [.agg z.cells, yb, ya] η r η' ∧ r = .bool true := by
 refine call_of (PT := pl10) Try.func10 rfl (U 10 (by decide)) ok10 rfl ?_
 simp -implicitDefEqProofs (disch := omega) only [go_sem]
 refine thenN_call ⟨_, _, h22 _, ?_⟩
 have E1 : ExtB η.nx η (η.new (.live false z.cells)) := extN (.refl _ _)
 have x1 : (η.new (.live false z.cells)).f η.nx = .live false z.cells := by show (if η.nx = η.nx then _ else _) = _; rw [if_pos rfl]
 have n1 : (η.new (.live false z.cells)).nx = η.nx + 1 := rfl
 generalize η.new (.live false z.cells) = η1 at *
 simp -implicitDefEqProofs (disch := omega) only [go_sem, Bool.not_true, x1]
 refine thenN_call (great30_then U (hp.ext E1) hr fun η2 E2 => ?_)
 have F2 := extT E1 E2
 have g2 := E2.1
 have x2 := (E2.2 _ (by omega)).trans x1
 cases hg : greatF p with
 | true => simp -implicitDefEqProofs (disch := omega) only [go_sem]
 | false =>
 have hf := hr.fine hg
 simp -implicitDefEqProofs (disch := omega) only [go_sem]
 refine thenN_call ⟨_, _, heavy_call U (hya.ext F2) hla, ?_⟩
 cases hA : heavyF A with
 | true => simp -implicitDefEqProofs (disch := omega) only [go_sem]
 | false =>
 have lA : A.length ≤ 40 := by unfold heavyF at hA; have := (Bool.or_eq_false_iff.1 hA).1; have := of_decide_eq_false this; omega
 have lyb := fun e y' η' => (hyb.ext F2).len (e := e) (w := y') (η' := η') hlb
 by_cases hB : 2000 < l.length
 ·simp -implicitDefEqProofs (disch := omega) only [go_sem, lyb]
 simp -implicitDefEqProofs (disch := omega) only [go_sem, x2, lyb]
 refine thenN_call (refcheck_then U z p (hp.ext F2) hf fun η3 E3 => ?_)
 have F3 := extT F2 E3
 have g3 := E3.1
 have x3 := (E3.2 _ (by omega)).trans x2
 simp -implicitDefEqProofs (disch := omega) only [go_sem, x3]
 refine thenN_call (new_then U (hp.ext F3) hf (fun hno η4 E4 => ?_) fun hck lo1 hi1 z1 mp1 mb1 η4 M1 hlo1 E4 => ?_)
 ·simp -implicitDefEqProofs (disch := omega) only [go_sem]
 have F4 := extT F3 E4
 have g4 := E4.1
 have x4 := (E4.2 _ (by omega)).trans x3
 rw [hck]
 simp -implicitDefEqProofs (disch := omega) only [go_sem, x4]
 refine thenN_call (refnew_then U ((held_0 hp).of F4.1 fun b _ hb => F4.2 b hb) hf fun mp2 mb2 η5 M2 q1 q2 E5 => ?_)
 have F5 := extT F4 E5
 have g5 := E5.1
 have a1 := M1.at_
 have b1 := M1.mat
 have a2 := M2.at_
 have b2 := M2.mat
 have M1 := M1.keep (η' := η5) E5.1 fun b hb _ => E5.2 b hb
 have F5' : ExtB η2.nx η2 η5 := E3.trans ((E4.mono E3.1).trans (E5.mono (Nat.le_trans E3.1 E4.1)))
 simp -implicitDefEqProofs (disch := omega) only [go_sem]
 have E6 : ExtB η5.nx η5 (η5.new (.live false [])) := .new (Nat.le_refl _)
 refine thenN_app (base := η5.nx) (by decide) .new0 (((hyb.ext F2).ext ⟨F5'.1, F5'.2⟩).ext E6) (by omega) E6.1 fun x7 η7 o7 E7 => ?_
 rw [List.nil_append, Nat.zero_add] at o7
 have E57 : ExtB η5.nx η5 η7 := E6.trans E7
 have M1 := M1.keep E57.1 fun b hb _ => E57.2 b hb
 have M2 := M2.keep E57.1 fun b hb _ => E57.2 b hb
 have F7 : ExtB η2.nx η2 η7 := F5'.trans (E57.mono F5'.1)
 have g7 := E57.1
 simp -implicitDefEqProofs (disch := omega) only [go_sem]
 have o7r : RdA 1 η7 x7 l.length (u8s l) := o7.rd
 have ybr : ∀ ζ : HN, ExtB η2.nx η2 ζ → RdA 1 ζ yb l.length (u8s l) := fun ζ e => (hyb.ext F2).ext e
 cases hld : loadF p.mems l with
 | none =>
  refine thenN_call (load_then U M1 hf o7r (by omega) hbt (fun _ η8 M1 E8 => ?_) fun _ _ h => by rw [hld] at h; cases h)
  have M2 := M2.keep E8.1 fun b hb _ => E8.2 b hb
  have F8 : ExtB η2.nx η2 η8 := F7.trans (E8.mono F7.1)
  simp -implicitDefEqProofs (disch := omega) only [go_sem]
  refine thenN_call (refload_then U M2 hf (ybr η8 F8) (by omega) hbt (fun _ η9 M2 E9 => ?_) fun _ _ h => by rw [hld] at h; cases h)
  have M1 := M1.keep E9.1 fun b hb _ => E9.2 b hb
  have FZ : ExtB η2.nx η2 η9 := F8.trans (E9.mono F8.1)
  obtain ⟨s1, hs1'⟩ : ∃ s : List Nat × Nat, s = (List.replicate p.mems.length 0, 0) := ⟨_, rfl⟩
  have M1 : MachAt lo1 hi1 η9 mp1 mb1 z1 p s1.1 s1.2 := by rw [hs1']; exact M1
  have M2 : MachAt 0 η.nx η9 mp2 mb2 z p s1.1 s1.2 := by rw [hs1']; exact M2
  have KO : KOk p.mems s1.1 := by rw [hs1']; exact .zero _
  have ht1 : s1.2 ≤ 4611686018427387904 := by rw [hs1']; exact Nat.zero_le _
  obtain ⟨mbA, hmA⟩ : ∃ m, m = mb1 := ⟨_, rfl⟩
  obtain ⟨mbB, hmB⟩ : ∃ m, m = mb2 := ⟨_, rfl⟩
  rw [← hmA] at M1
  rw [← hmB] at M2
  have ht1 : s1.2 ≤ 4611686018427387904 := ht1
  have hml : s1.1.length ≤ 1000000 := by rw [M1.len]; have := (check_lens hck).mems; omega
  simp -implicitDefEqProofs (disch := omega) only [go_sem]
  refine dE_call (state_then U M1 hml fun v1 θ1 o1 D1 => ?_)
  have hs1 := state_str o1
  have M1 := M1.keep D1.1 fun b hb _ => D1.2 b hb
  have M2 := M2.keep D1.1 fun b hb _ => D1.2 b hb
  simp -implicitDefEqProofs (disch := omega) only [go_sem, hs1]
  refine dE_call (refstate_then U M2 hml fun v2 θ2 o2 D2 => ?_)
  have hs2 := state_str o2
  have hs12 := state_str (o1.ext D2)
  have M1 := M1.keep D2.1 fun b hb _ => D2.2 b hb
  have M2 := M2.keep D2.1 fun b hb _ => D2.2 b hb
  have G2 : ExtB η2.nx η2 θ2 := FZ.trans ((D1.mono FZ.1).trans (D2.mono (Nat.le_trans FZ.1 D1.1)))
  simp -implicitDefEqProofs (disch := omega) only [go_sem, hs1, hs2, hs12, strEq_rfl, not_le_f, false_implies, implies_true, true_and, and_true]
  have c1 := M1.at_
  have c1' := M1.mat
  have c2 := M2.at_
  have c2' := M2.mat
  refine thenN_call (copym_then U M1 hf fun mp3 mb3 θ3 M3 q3 q4 D3 => ?_)
  have M1 := M1.keep D3.1 fun b hb _ => D3.2 b hb
  have M2 := M2.keep D3.1 fun b hb _ => D3.2 b hb
  have G3 : ExtB η2.nx η2 θ3 := G2.trans (D3.mono G2.1)
  simp -implicitDefEqProofs (disch := omega) only [go_sem]
  have c3 := M3.at_
  have c3' := M3.mat
  have d1 := D1.1
  have d2 := D2.1
  have d3 := D3.1
  obtain ⟨I1, hI1⟩ : ∃ I : Nat → FN → HN → Prop, ∀ m φ ζ, I m φ ζ ↔ ∃ i, m = A.length - i ∧ i ≤ A.length ∧ φ 1 = yb ∧ φ 2 = ya ∧ φ 3 = .ptr η.nx 0 ∧ φ 9 = .ptr mp1 0 ∧ φ 11 = .ptr mp2 0 ∧ φ 13 = .bool false ∧ φ 14 = .ptr mp3 0 ∧ φ 15 = .int .i64 i ∧ MachAt lo1 hi1 ζ mp1 mbA z1 p (runS p s1 A i).1 (runS p s1 A i).2 ∧ MachAt 0 η.nx ζ mp2 mbB z p (runS p s1 A i).1 (runS p s1 A i).2 ∧ MachAt lo1 hi1 ζ mp3 mb3 z1 p s1.1 s1.2 ∧ KOk p.mems (runS p s1 A i).1 ∧ ExtB η2.nx η2 ζ ∧ θ3.nx ≤ ζ.nx := ⟨_, fun _ _ _ => Iff.rfl⟩
  refine wpN_loop I1 A.length ((hI1 _ _ _).2 ⟨0, rfl, Nat.zero_le _, rfl, rfl, rfl, rfl, rfl, rfl, rfl, rfl, M1, M2, M3, KO, G3, Nat.le_refl _⟩) ?_
  clear M1 M2 M3
  intro m φ ζ hI
  obtain ⟨i, hm, hi, p1, p2, p3, p9, p11, p13, p14, p15, M1, M2, M3, KO2, FT, nz⟩ := (hI1 _ _ _).1 hI
  clear hI
  have lya := (hya.ext F2).len hla
  have ht := runS_t (p := p) (s := s1) (A := A) i hi
  by_cases hlt : i < A.length
  ·obtain ⟨b, off, cap, ro, row, ye, hb, hbn, hrw⟩ := (hya.ext F2).at hlt
   have RW := (hya.ext F2).2 _ (List.getElem_mem hlt)
   have hb1 := (FT.2 _ hbn).trans hb
   rw [ye] at p2
   have hml2 := outS_len (r := A[i].2) hf ⟨M2.len, M2.lt.1⟩ RW.lt
   simp -implicitDefEqProofs (disch := omega) only [go_sem, p1, p2, p3, p9, p11, p13, p14, p15, hb1, hrw]
   refine thenN_call (step_go U M1 hf hck (RW.stays FT (Nat.le_refl _) (by omega) (by omega) FT.1) ⟨RW.len, RW.lt⟩ (by omega) fun x5 ζ5 M5 O5 n5 k5 => ?_)
   have M2 := M2.keep n5 fun b hb hh => k5 b hb (by omega) (by omega)
   have M3 := M3.keep n5 fun b hb hh => k5 b hb (by omega) (by omega)
   have G5 : ExtB η2.nx η2 ζ5 := ⟨Nat.le_trans FT.1 n5, fun b hb => (k5 b (by omega) (by omega) (by omega)).trans (FT.2 b hb)⟩
   have hb2 := (G5.2 _ hbn).trans hb
   simp -implicitDefEqProofs (disch := omega) only [go_sem, p1, p2, p3, p9, p11, p13, p14, p15, hb2, hrw]
   refine thenN_call (refstep_go U M2 hf hck KO2 (RW.stays G5 (Nat.le_refl _) (by omega) (by omega) G5.1) ⟨RW.len, RW.lt⟩ (by omega) fun x6 ζ6 M6 KO6 O6 n6 k6 => ?_)
   have M5 := M5.keep n6 fun b hb hh => k6 b hb (by omega) (by omega)
   have M3 := M3.keep n6 fun b hb hh => k6 b hb (by omega) (by omega)
   have O5 := O5.keep n6 fun b h1 h2 => k6 b h2 (by omega) (by omega)
   have G6 : ExtB η2.nx η2 ζ6 := ⟨Nat.le_trans G5.1 n6, fun b hb => (k6 b (by omega) (by omega) (by omega)).trans (G5.2 b hb)⟩
   simp -implicitDefEqProofs (disch := omega) only [go_sem, p1, p2, p3, p9, p11, p13, p14, p15]
   refine thenN_call ⟨_, _, same_call U O5.rd O6.rd hml2 hml2, ?_⟩
   rw [decide_eq_true rfl]
   simp -implicitDefEqProofs (disch := omega) only [go_sem, p1, p2, p3, p9, p11, p13, p14, p15, Bool.not_true]
   exact ⟨A.length - (i + 1), by omega, (hI1 _ _ _).2 ⟨i + 1, rfl, by omega, p1, ye ▸ p2, p3, p9, p11, p13, p14, rfl, by rw [runS_s hlt]; exact M5, by rw [runS_s hlt]; exact M6, M3, by rw [runS_s hlt]; exact KO6, G6, by omega⟩⟩
  obtain rfl : i = A.length := by omega
  generalize runS p s1 A A.length = u at *
  have hul : u.1.length ≤ 1000000 := by rw [M1.len]; have := (check_lens hck).mems; omega
  simp -implicitDefEqProofs (disch := omega) only [go_sem, p1, p2, p3, p9, p11, p13, p14, p15, lya]
  refine dE_call (state_then U M1 hul fun v3 ψ1 o3 D4 => ?_)
  have hs3 := state_str o3
  have M1 := M1.keep D4.1 fun b hb _ => D4.2 b hb
  have M2 := M2.keep D4.1 fun b hb _ => D4.2 b hb
  have M3 := M3.keep D4.1 fun b hb _ => D4.2 b hb
  simp -implicitDefEqProofs (disch := omega) only [go_sem, p1, p2, p3, p9, p11, p13, p14, hs3]
  refine dE_call (refstate_then U M2 hul fun v4 ψ2 o4 D5 => ?_)
  have hs4 := state_str o4
  have hs34 := state_str (o3.ext D5)
  have M1 := M1.keep D5.1 fun b hb _ => D5.2 b hb
  have M3 := M3.keep D5.1 fun b hb _ => D5.2 b hb
  have G5 : ExtB η2.nx η2 ψ2 := FT.trans ((D4.mono FT.1).trans (D5.mono (Nat.le_trans FT.1 D4.1)))
  simp -implicitDefEqProofs (disch := omega) only [go_sem, p1, p2, p3, p9, p11, p13, p14, hs3, hs4, hs34, strEq_rfl, not_le_f, false_implies, implies_true, true_and, and_true]
  refine thenN_call (reset_then U M1 hf fun v6 ψ6 M6 n6 k6 => ?_)
  have G7 : ExtB η2.nx η2 ψ6 := ⟨Nat.le_trans G5.1 n6, fun b hb => (k6 b (by have := G5.1; omega) (by omega)).trans (G5.2 b hb)⟩
  simp -implicitDefEqProofs (disch := omega) only [go_sem, p1, p2, p3, p9, p11, p13, p14]
  have hl0 : (List.replicate p.mems.length 0).length ≤ 1000000 := by rw [List.length_replicate]; have := (check_lens hck).mems; omega
  refine dE_call (state_then U M6 hl0 fun v7 ψ7 o7' D7 => ?_)
  have hs7 := state_str o7'
  have G8 : ExtB η2.nx η2 ψ7 := G7.trans (D7.mono G7.1)
  have x8 := (G8.2 _ (by omega)).trans x2
  have x7 := (G7.2 _ (by omega)).trans x2
  simp -implicitDefEqProofs (disch := omega) only [go_sem, p1, p2, p3, p9, p11, p13, p14, hs7, x8]
  refine dE_call (refnew_then U ((held_0 hp).of (Nat.le_trans F2.1 G8.1) fun b _ hb => (G8.2 b (by omega)).trans (F2.2 b hb)) hf fun mp9 mb9 ψ8 M9 _ _ D8 => ?_)
  have hs78 := state_str (o7'.ext D8)
  have x9 := (D8.2 _ (by have := G8.1; omega)).trans x8
  simp -implicitDefEqProofs (disch := omega) only [go_sem, p1, p2, p3, p9, p11, p13, p14, hs7, x8, hs78, x9]
  refine dE_call (refstate_then U M9 hl0 fun v9 ψ9 o9 D9 => ?_)
  have hs9 := state_str o9
  have hs79 := state_str ((o7'.ext D8).ext D9)
  have x10 := (D9.2 _ (by have := G8.1; have := D8.1; omega)).trans x9
  simp -implicitDefEqProofs (disch := omega) only [go_sem, p1, p2, p3, p9, p11, p13, p14, hs7, x7, x8, hs78, x9, x10, hs9, hs79, strEq_rfl, not_le_f, false_implies, implies_true, true_and, and_true]
 | some st =>
  obtain ⟨ms', t⟩ := st
  obtain ⟨hcan, KO, ht1⟩ := loadF_some hbt hld
  refine thenN_call (load_then U M1 hf o7r (by omega) hbt (fun h => by rw [hld] at h; cases h) fun ms1 t1 h mbA η8 M1 hA n8 k8 => ?_)
  rw [hld] at h
  cases h
  have M2 := M2.keep n8 fun b hb hh => k8 b hb (by omega)
  have F8 : ExtB η2.nx η2 η8 := ⟨Nat.le_trans F7.1 n8, fun b hb => (k8 b (by omega) (by omega)).trans (F7.2 b hb)⟩
  simp -implicitDefEqProofs (disch := omega) only [go_sem]
  have mA := M1.mat
  refine thenN_call (refload_then U M2 hf (ybr η8 F8) (by omega) hbt (fun h => by rw [hld] at h; cases h) fun ms1 t1 h mbB η9 M2 hB n9 k9 => ?_)
  rw [hld] at h
  cases h
  have M1 := M1.keep n9 fun b hb hh => k9 b hb (by omega)
  have FZ : ExtB η2.nx η2 η9 := ⟨Nat.le_trans F8.1 n9, fun b hb => (k9 b (by omega) (by omega)).trans (F8.2 b hb)⟩
  obtain ⟨s1, hs1'⟩ : ∃ s : List Nat × Nat, s = (ms', t) := ⟨_, rfl⟩
  have M1 : MachAt lo1 hi1 η9 mp1 mbA z1 p s1.1 s1.2 := by rw [hs1']; exact M1
  have M2 : MachAt 0 η.nx η9 mp2 mbB z p s1.1 s1.2 := by rw [hs1']; exact M2
  have KO : KOk p.mems s1.1 := by rw [hs1']; exact KO
  have ht1 : s1.2 ≤ 4611686018427387904 := by rw [hs1']; exact ht1
  have hcan : l = stateB s1.2 s1.1 := by rw [hs1']; exact hcan
  have ht1 : s1.2 ≤ 4611686018427387904 := ht1
  have hml : s1.1.length ≤ 1000000 := by rw [M1.len]; have := (check_lens hck).mems; omega
  simp -implicitDefEqProofs (disch := omega) only [go_sem]
  refine dE_call (state_then U M1 hml fun v1 θ1 o1 D1 => ?_)
  have hs1 := state_str o1
  have M1 := M1.keep D1.1 fun b hb _ => D1.2 b hb
  have M2 := M2.keep D1.1 fun b hb _ => D1.2 b hb
  simp -implicitDefEqProofs (disch := omega) only [go_sem, hs1]
  refine dE_call (refstate_then U M2 hml fun v2 θ2 o2 D2 => ?_)
  have hs2 := state_str o2
  have hs12 := state_str (o1.ext D2)
  have M1 := M1.keep D2.1 fun b hb _ => D2.2 b hb
  have M2 := M2.keep D2.1 fun b hb _ => D2.2 b hb
  have G2 : ExtB η2.nx η2 θ2 := FZ.trans ((D1.mono FZ.1).trans (D2.mono (Nat.le_trans FZ.1 D1.1)))
  simp -implicitDefEqProofs (disch := omega) only [go_sem, hs1, hs2, hs12, strEq_rfl, not_le_f, false_implies, implies_true, true_and, and_true]
  have c1 := M1.at_
  have c1' := M1.mat
  have c2 := M2.at_
  have c2' := M2.mat
  refine thenN_call (copym_then U M1 hf fun mp3 mb3 θ3 M3 q3 q4 D3 => ?_)
  have M1 := M1.keep D3.1 fun b hb _ => D3.2 b hb
  have M2 := M2.keep D3.1 fun b hb _ => D3.2 b hb
  have G3 : ExtB η2.nx η2 θ3 := G2.trans (D3.mono G2.1)
  simp -implicitDefEqProofs (disch := omega) only [go_sem]
  have c3 := M3.at_
  have c3' := M3.mat
  have d1 := D1.1
  have d2 := D2.1
  have d3 := D3.1
  obtain ⟨I1, hI1⟩ : ∃ I : Nat → FN → HN → Prop, ∀ m φ ζ, I m φ ζ ↔ ∃ i, m = A.length - i ∧ i ≤ A.length ∧ φ 1 = yb ∧ φ 2 = ya ∧ φ 3 = .ptr η.nx 0 ∧ φ 9 = .ptr mp1 0 ∧ φ 11 = .ptr mp2 0 ∧ φ 13 = .bool true ∧ φ 14 = .ptr mp3 0 ∧ φ 15 = .int .i64 i ∧ MachAt lo1 hi1 ζ mp1 mbA z1 p (runS p s1 A i).1 (runS p s1 A i).2 ∧ MachAt 0 η.nx ζ mp2 mbB z p (runS p s1 A i).1 (runS p s1 A i).2 ∧ MachAt lo1 hi1 ζ mp3 mb3 z1 p s1.1 s1.2 ∧ KOk p.mems (runS p s1 A i).1 ∧ ExtB η2.nx η2 ζ ∧ θ3.nx ≤ ζ.nx := ⟨_, fun _ _ _ => Iff.rfl⟩
  refine wpN_loop I1 A.length ((hI1 _ _ _).2 ⟨0, rfl, Nat.zero_le _, rfl, rfl, rfl, rfl, rfl, rfl, rfl, rfl, M1, M2, M3, KO, G3, Nat.le_refl _⟩) ?_
  clear M1 M2 M3
  intro m φ ζ hI
  obtain ⟨i, hm, hi, p1, p2, p3, p9, p11, p13, p14, p15, M1, M2, M3, KO2, FT, nz⟩ := (hI1 _ _ _).1 hI
  clear hI
  have lya := (hya.ext F2).len hla
  have ht := runS_t (p := p) (s := s1) (A := A) i hi
  by_cases hlt : i < A.length
  ·obtain ⟨b, off, cap, ro, row, ye, hb, hbn, hrw⟩ := (hya.ext F2).at hlt
   have RW := (hya.ext F2).2 _ (List.getElem_mem hlt)
   have hb1 := (FT.2 _ hbn).trans hb
   rw [ye] at p2
   have hml2 := outS_len (r := A[i].2) hf ⟨M2.len, M2.lt.1⟩ RW.lt
   simp -implicitDefEqProofs (disch := omega) only [go_sem, p1, p2, p3, p9, p11, p13, p14, p15, hb1, hrw]
   refine thenN_call (step_go U M1 hf hck (RW.stays FT (Nat.le_refl _) (by omega) (by omega) FT.1) ⟨RW.len, RW.lt⟩ (by omega) fun x5 ζ5 M5 O5 n5 k5 => ?_)
   have M2 := M2.keep n5 fun b hb hh => k5 b hb (by omega) (by omega)
   have M3 := M3.keep n5 fun b hb hh => k5 b hb (by omega) (by omega)
   have G5 : ExtB η2.nx η2 ζ5 := ⟨Nat.le_trans FT.1 n5, fun b hb => (k5 b (by omega) (by omega) (by omega)).trans (FT.2 b hb)⟩
   have hb2 := (G5.2 _ hbn).trans hb
   simp -implicitDefEqProofs (disch := omega) only [go_sem, p1, p2, p3, p9, p11, p13, p14, p15, hb2, hrw]
   refine thenN_call (refstep_go U M2 hf hck KO2 (RW.stays G5 (Nat.le_refl _) (by omega) (by omega) G5.1) ⟨RW.len, RW.lt⟩ (by omega) fun x6 ζ6 M6 KO6 O6 n6 k6 => ?_)
   have M5 := M5.keep n6 fun b hb hh => k6 b hb (by omega) (by omega)
   have M3 := M3.keep n6 fun b hb hh => k6 b hb (by omega) (by omega)
   have O5 := O5.keep n6 fun b h1 h2 => k6 b h2 (by omega) (by omega)
   have G6 : ExtB η2.nx η2 ζ6 := ⟨Nat.le_trans G5.1 n6, fun b hb => (k6 b (by omega) (by omega) (by omega)).trans (G5.2 b hb)⟩
   simp -implicitDefEqProofs (disch := omega) only [go_sem, p1, p2, p3, p9, p11, p13, p14, p15]
   refine thenN_call ⟨_, _, same_call U O5.rd O6.rd hml2 hml2, ?_⟩
   rw [decide_eq_true rfl]
   simp -implicitDefEqProofs (disch := omega) only [go_sem, p1, p2, p3, p9, p11, p13, p14, p15, Bool.not_true]
   exact ⟨A.length - (i + 1), by omega, (hI1 _ _ _).2 ⟨i + 1, rfl, by omega, p1, ye ▸ p2, p3, p9, p11, p13, p14, rfl, by rw [runS_s hlt]; exact M5, by rw [runS_s hlt]; exact M6, M3, by rw [runS_s hlt]; exact KO6, G6, by omega⟩⟩
  obtain rfl : i = A.length := by omega
  generalize runS p s1 A A.length = u at *
  have hul : u.1.length ≤ 1000000 := by rw [M1.len]; have := (check_lens hck).mems; omega
  simp -implicitDefEqProofs (disch := omega) only [go_sem, p1, p2, p3, p9, p11, p13, p14, p15, lya]
  refine dE_call (state_then U M1 hul fun v3 ψ1 o3 D4 => ?_)
  have hs3 := state_str o3
  have M1 := M1.keep D4.1 fun b hb _ => D4.2 b hb
  have M2 := M2.keep D4.1 fun b hb _ => D4.2 b hb
  have M3 := M3.keep D4.1 fun b hb _ => D4.2 b hb
  simp -implicitDefEqProofs (disch := omega) only [go_sem, p1, p2, p3, p9, p11, p13, p14, hs3]
  refine dE_call (refstate_then U M2 hul fun v4 ψ2 o4 D5 => ?_)
  have hs4 := state_str o4
  have hs34 := state_str (o3.ext D5)
  have M1 := M1.keep D5.1 fun b hb _ => D5.2 b hb
  have M3 := M3.keep D5.1 fun b hb _ => D5.2 b hb
  have G5 : ExtB η2.nx η2 ψ2 := FT.trans ((D4.mono FT.1).trans (D5.mono (Nat.le_trans FT.1 D4.1)))
  simp -implicitDefEqProofs (disch := omega) only [go_sem, p1, p2, p3, p9, p11, p13, p14, hs3, hs4, hs34, strEq_rfl, Bool.not_true]
  refine dE_call (state_then U M3 hml fun v5 ψ3 o5 D6 => ?_)
  have G6 : ExtB η2.nx η2 ψ3 := G5.trans (D6.mono G5.1)
  have M1 := M1.keep D6.1 fun b hb _ => D6.2 b hb
  have hs5 := state_str o5
  have hs35 := state_str ((o3.ext D5).ext D6)
  have hs45 := state_str (o4.ext D6)
  have hcan := hcan
  have hb0 : cvN' Try.prog (.slice 5 1 1) .str yb ζ = .ok (.str (stateB s1.2 s1.1).length (bV (stateB s1.2 s1.1))) ζ := by rw [← hcan]; exact str_of ((hyb.ext F2).ext ⟨FT.1, FT.2⟩) (by rw [hcan]; exact stateB_ne _ _) (by rfl)
  have hb1 : cvN' Try.prog (.slice 5 1 1) .str yb ψ1 = .ok (.str (stateB s1.2 s1.1).length (bV (stateB s1.2 s1.1))) ψ1 := by rw [← hcan]; exact str_of (((hyb.ext F2).ext ⟨FT.1, FT.2⟩).ext D4) (by rw [hcan]; exact stateB_ne _ _) (by rfl)
  have hb2 : cvN' Try.prog (.slice 5 1 1) .str yb ψ2 = .ok (.str (stateB s1.2 s1.1).length (bV (stateB s1.2 s1.1))) ψ2 := by rw [← hcan]; exact str_of ((((hyb.ext F2).ext ⟨FT.1, FT.2⟩).ext D4).ext D5) (by rw [hcan]; exact stateB_ne _ _) (by rfl)
  have hb3 : cvN' Try.prog (.slice 5 1 1) .str yb ψ3 = .ok (.str (stateB s1.2 s1.1).length (bV (stateB s1.2 s1.1))) ψ3 := by rw [← hcan]; exact str_of (((((hyb.ext F2).ext ⟨FT.1, FT.2⟩).ext D4).ext D5).ext D6) (by rw [hcan]; exact stateB_ne _ _) (by rfl)
  simp -implicitDefEqProofs (disch := omega) only [go_sem, p1, p2, p3, p9, p11, p13, p14, hs3, hs4, hs34, hs5, hs35, hs45, hb0, hb1, hb2, hb3, strEq_rfl, not_le_f, false_implies, implies_true, true_and, and_true]
  refine thenN_call (reset_then U M1 hf fun v6 ψ6 M6 n6 k6 => ?_)
  have G7 : ExtB η2.nx η2 ψ6 := ⟨Nat.le_trans G6.1 n6, fun b hb => (k6 b (by have := G6.1; omega) (by omega)).trans (G6.2 b hb)⟩
  simp -implicitDefEqProofs (disch := omega) only [go_sem, p1, p2, p3, p9, p11, p13, p14]
  have hl0 : (List.replicate p.mems.length 0).length ≤ 1000000 := by rw [List.length_replicate]; have := (check_lens hck).mems; omega
  refine dE_call (state_then U M6 hl0 fun v7 ψ7 o7' D7 => ?_)
  have hs7 := state_str o7'
  have G8 : ExtB η2.nx η2 ψ7 := G7.trans (D7.mono G7.1)
  have x8 := (G8.2 _ (by omega)).trans x2
  have x7 := (G7.2 _ (by omega)).trans x2
  simp -implicitDefEqProofs (disch := omega) only [go_sem, p1, p2, p3, p9, p11, p13, p14, hs7, x8]
  refine dE_call (refnew_then U ((held_0 hp).of (Nat.le_trans F2.1 G8.1) fun b _ hb => (G8.2 b (by omega)).trans (F2.2 b hb)) hf fun mp9 mb9 ψ8 M9 _ _ D8 => ?_)
  have hs78 := state_str (o7'.ext D8)
  have x9 := (D8.2 _ (by have := G8.1; omega)).trans x8
  simp -implicitDefEqProofs (disch := omega) only [go_sem, p1, p2, p3, p9, p11, p13, p14, hs7, x8, hs78, x9]
  refine dE_call (refstate_then U M9 hl0 fun v9 ψ9 o9 D9 => ?_)
  have hs9 := state_str o9
  have hs79 := state_str ((o7'.ext D8).ext D9)
  have x10 := (D9.2 _ (by have := G8.1; have := D8.1; omega)).trans x9
  simp -implicitDefEqProofs (disch := omega) only [go_sem, p1, p2, p3, p9, p11, p13, p14, hs7, x7, x8, hs78, x9, x10, hs9, hs79, strEq_rfl, not_le_f, false_implies, implies_true, true_and, and_true]
end Go.Proofs.Ytjljolnhmmbkoaa
namespace Go.Proofs.Ytjljolnhmmbkoaa.machLoads
open Go.ChangeShapes Go.WideShapes Go.ChangeAt Go.RowKit
set_option autoImplicit false
set_option linter.unusedVariables false

theorem own : ownKnob Try.prog.godebug = none := by kernel_rfl
theorem laid : laidOutB Try.prog = true := by kernel_rfl
theorem reads32 : Try.prog.readableRec 32 = true := by kernel_rfl
theorem row32 : 32 < Try.prog.types.size := Nat.le_of_ble_eq_true (by kernel_rfl)
theorem reads52 : Try.prog.readableRec 52 = true := by kernel_rfl
theorem row52 : 52 < Try.prog.types.size := Nat.le_of_ble_eq_true (by kernel_rfl)
theorem reads55 : Try.prog.readableRec 55 = true := by kernel_rfl
theorem row55 : 55 < Try.prog.types.size := Nat.le_of_ble_eq_true (by kernel_rfl)
set_option maxRecDepth 100000 in
theorem walk {H : Type} {enc : TypeId × Value → H} {W : World} {base : Nat} {v0 : Value} {d0 : DataW H} {ps0 : List MemPlace} {v1 : Value} {d1 : DataW H} {ps1 : List MemPlace} {v2 : Value} {d2 : DataW H} {ps2 : List MemPlace} (o0 : Value.okWide Try.prog W .any base 32 v0) (h0 : DataW.Trod enc Try.prog W 0 (fun _ => true) true 32 v0 d0 ps0) (o1 : Value.okWide Try.prog W .any base 52 v1) (h1 : DataW.Trod enc Try.prog W 0 (fun _ => true) true 52 v1 d1 ps1) (o2 : Value.okWide Try.prog W .any base 55 v2) (h2 : DataW.Trod enc Try.prog W 0 (fun _ => true) true 55 v2 d2 ps2) :
  Calls Try.prog 10 #[v0, v1, v2] W fun e w' => e = .returned (.bool true) ∧ Eng.Kept W w' := by
 obtain ⟨bs, x, zs, hb, vl, ⟨c0, e0, rfl, _, _, ⟨zs0, rfl, rep0⟩, ⟨c1, e1, rfl, _, _, rep1, rep2⟩⟩⟩ := Eng.LayC.done ((Eng.lay_struct 6 plain32 Try.underlying32 o0 h0).app ((Eng.lay_slice 6 plain52 Try.underlying52 o1 h1).app (Eng.lay_slice 6 plain55 Try.underlying55 o2 h2)))
 obtain ⟨z0, p0, rfl, hp0, hr0⟩ := rep_prog (m := 2) rep0
 obtain ⟨y1, l1, rfl, hy1, hl1, ht1⟩ := rep_bytes (m := 4) rep1
 obtain ⟨y2, l2, rfl, hy2, hl2⟩ := rep_rows (m := 3) rep2
 obtain ⟨r, η', hc, rfl⟩ := loads_spec usual3 wakes3 (Eng.startH Try.prog bs) z0 p0 hp0 hr0 y1 l1 hy1 hl1 ht1 y2 l2 hy2 hl2
 refine (Eng.law_calls (us := [v0, v1, v2]) good nat3_ok hc (w := W) (x := x) hb vl).mono fun e w' ⟨u, ρ', he, hu, hk⟩ => ?_
 letI : Eng.Deep := ⟨0, 0⟩
 letI : Eng.Env := Eng.noEnv
 rw [Eng.VR_bool.1 hu] at he
 exact ⟨he, hk⟩

set_option maxRecDepth 100000 in
theorem lifted (os : Os) (started : os.Started) (H : Type) (enc : TypeId × Value → H) :
  ReturnsInHanded {} Try.checked os 10 .any (Rows.machLoadsSpec.pre6 enc Try.prog Try.f10 Rows.machLoadsRow.domain false) (Rows.machLoadsSpec.post enc Try.prog Try.f10 false true false false) := by
 refine returnsInHanded_of_change (C := Try.checked) own started (by kernel_rfl) Try.func10
  (ChangeSpec.witness6 (enc := enc) (C := Try.checked) false ⟨#[], #[.agg #[.slice none 0 0, .slice none 0 0, .slice none 0 0, .slice none 0 0, .slice none 0 0, .slice none 0 0], .slice none 0 0, .slice none 0 0], []⟩ 8 (by kernel_rfl) (by kernel_rfl) (by kernel_rfl) (by kernel_rfl)) ?_
 intro W base args ds gs before hval0 hW hcnd _
 have hval : ∀ (j : Nat) t v, Try.f10.params[j]? = some t → args[j]? = some v → Value.okWide Try.prog W .any base t v := hval0
 have hW' := hW
 obtain ⟨p, q, hA0, hV, rfl, hfz, hnd⟩ := hW
 have hA : DataW.TrodAll enc Try.prog W 0 (fun _ => true) true Try.f10.params.toList args.toList ds p := hA0
 rw [Try.params10] at hA hval
 obtain ⟨v0, vs0, d0, ds0, p0, q0, hargs, rfl, rfl, h0, r0⟩ := trodAll_cons hA
 obtain ⟨v1, vs1, d1, ds1, p1, q1, rfl, rfl, rfl, h1, r1⟩ := trodAll_cons r0
 obtain ⟨v2, vs2, d2, ds2, p2, q2, rfl, rfl, rfl, h2, r2⟩ := trodAll_cons r1
 obtain ⟨rfl, rfl, rfl⟩ := trodAll_nil r2
 obtain rfl : args = #[v0, v1, v2] := by cases args; simp_all
 obtain ⟨rfl, rfl⟩ := trodVars_none hV
 have o0 := hval 0 32 v0 rfl rfl
 have o1 := hval 1 52 v1 rfl rfl
 have o2 := hval 2 55 v2 rfl rfl
 clear hA0 hval0
 simp only [List.append_nil] at hW'
 refine (walk o0 h0 o1 h1 o2 h2).mono fun e W' ⟨he, hg⟩ => ?_
 subst he
 letI : Eng.Deep := ⟨0, 0⟩
 letI : Eng.Env := Eng.noEnv
 exact ⟨_, rfl, Eng.post_of_kept (pa := p0 ++ (p1 ++ (p2))) (pv := []) hW' (fun _ _ => (trodAll_cons_mk (shut_bool Try.underlying4 _) trodAll_mk0))
  (fun sp hsp => by
   have q := (trodAll_cons_mk (Eng.trod_keep (sp := sp) laid reads32 row32 h0 hg fun q hq => hsp q (by simp [hq])) (trodAll_cons_mk (Eng.trod_keep (sp := sp) laid reads52 row52 h1 hg fun q hq => hsp q (by simp [hq])) (trodAll_cons_mk (Eng.trod_keep (sp := sp) laid reads55 row55 h2 hg fun q hq => hsp q (by simp [hq])) trodAll_mk0)))
   simp only [List.append_nil] at q
   rw [Try.params10]; exact q) (fun _ _ => rfl) (by simp) hg⟩

theorem over : Rows.machLoadsRow.holds Try.pinned (OpenSpec.ofChange Rows.machLoadsSpec) :=
 OpenClaim.holds_of_wide 10 Try.f10 rfl rfl rfl rfl rfl rfl rfl ⟨rfl, rfl, rfl, rfl, rfl⟩ rfl rfl rfl rfl rfl (by kernel_rfl) Try.func10 (by kernel_rfl)
  (of_decide_eq_true (by kernel_rfl)) (by unfold Func.isWrapper; first | (rw [if_pos (by decide +kernel)]; kernel_rfl) | (rw [if_neg (by decide +kernel)]; exact ⟨rfl, rfl⟩))
  (fun os started H enc _ => lifted os started H enc)

theorem proved : Rows.MachLoadsSaid :=
 over
#print axioms proved
end Go.Proofs.Ytjljolnhmmbkoaa.machLoads
