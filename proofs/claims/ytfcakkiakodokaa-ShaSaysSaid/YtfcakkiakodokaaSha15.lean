/- What is proved: a digest's digits. Conditions: none. -/
import Derived.Test.YtfcakkiakodokaaSha11
set_option linter.unusedVariables false
set_option linter.unusedSimpArgs false
set_option linter.unusedSectionVars false
namespace Go.Proofs.Ytfcakkiakodokaa
open Go.Eng
set_option autoImplicit false
set_option maxRecDepth 100000
variable {nat : ∀ [Deep], Nats} {F : List Nat → List Nat → List Nat}
@[go_sem] theorem opd_hex {φ : FN} : opd φ (.const (.string { data := #[48, 49, 50, 51, 52, 53, 54, 55, 56, 57, 97, 98, 99, 100, 101, 102] })) = .str 16 136107713667768957684761770045455085872 := rfl
@[go_sem] theorem opd_no {φ : FN} : opd φ (.const (.string { data := #[] })) = .str 0 0 := rfl
theorem shr4 {y : Nat} (h : y < 256) : shrN .u8 y 4 = y / 16 := by
  have h1 : nneg .u8 y = true := ble_true.2 (show Nat.succ y ≤ 256 from h)
  unfold shrN
  rw [h1]; rfl
theorem and15 (y : Nat) : y &&& 15 = y % 16 := Nat.and_two_pow_sub_one_eq_mod y 4
noncomputable def hexL (l : List Nat) : List Nat := l.flatMap fun y => [strAt 136107713667768957684761770045455085872 (y / 16), strAt 136107713667768957684761770045455085872 (y % 16)]
theorem hexL_len (l : List Nat) : (hexL l).length = 2 * l.length := by
  induction l with
  | nil => rfl
  | cons a l ih => unfold hexL at ih ⊢; rw [List.flatMap_cons, List.length_append, ih, List.length_cons]; simp; omega
theorem hexL_snoc (l : List Nat) (y : Nat) : hexL (l ++ [y]) = hexL l ++ [strAt 136107713667768957684761770045455085872 (y / 16), strAt 136107713667768957684761770045455085872 (y % 16)] := by
  unfold hexL; rw [List.flatMap_append]; simp
theorem bytes_u8s : ∀ l : List Nat, ∃ v, bytesN (u8s l) = some v
  | [] => ⟨_, rfl⟩
  | a :: l => by
    obtain ⟨v, hv⟩ := bytes_u8s l
    refine ⟨a + 256 * v, ?_⟩
    show (match bytesN (u8s l) with | some m => some (a + 256 * m) | none => none) = _
    rw [hv]
noncomputable def hexV (D : List Nat) : Nat := (bytesN (u8s (hexL D))).getD 0
theorem hexV_eq (D : List Nat) : bytesN (u8s (hexL D)) = some (hexV D) := by
  obtain ⟨v, hv⟩ := bytes_u8s (hexL D)
  unfold hexV; rw [hv]; rfl
def HexI (η : HN) (D : List Nat) (d : Nat) (m : Nat) (φ : FN) (η' : HN) : Prop :=
  ∃ i x, i + m = 32 ∧ φ 1 = .ptr d 0 ∧ φ 3 = .str 16 136107713667768957684761770045455085872 ∧ φ 4 = x ∧ φ 5 = .int .i64 i ∧ η'.f d = .live false (u8s D) ∧ OwnB (d + 1) η' x (hexL (D.take i)) ∧ ExtB d η η'
set_option maxHeartbeats 2000000 in
theorem hexR_spec (h12 : ∀ [Deep], nat 12 = none) (η : HN) (D : List Nat) (hD : D.length = 32) (hD2 : ∀ x ∈ D, x < 256) : ∃ v η', CallN Try.prog nat 12 [.agg (u8s D)] η v η' ∧ v = .str (hexL D).length (hexV D) ∧ ExtB η.nx η η' := by
  refine call_of (PT := pl12) Try.func12 rfl h12 ok12 rfl ?_
  simp -implicitDefEqProofs (disch := omega) only [go_sem, Nat.one_ne_zero, not_false_eq_true, if_true, List.replicate_zero]
  have hul : (u8s D).length = 32 := by rw [u8s_length, hD]
  have hd : ((η.new (.live false (u8s D))).new (.live false [])).f η.nx = .live false (u8s D) := by show (if η.nx = η.nx + 1 then _ else if η.nx = η.nx then _ else _) = _; rw [if_neg (by omega), if_pos rfl]
  have ho : OwnB (η.nx + 1) ((η.new (.live false (u8s D))).new (.live false [])) (.slice (η.nx + 1) 0 0 (.kn 0)) [] := ⟨η.nx + 1, Nat.le_refl _, Nat.lt_succ_self _, .inl ⟨rfl, rfl, [], by show (if η.nx + 1 = η.nx + 1 then _ else _) = _; rw [if_pos rfl]⟩⟩
  have hE : ExtB η.nx η ((η.new (.live false (u8s D))).new (.live false [])) := (ExtB.new (Nat.le_refl _)).trans (.new (Nat.le_succ _))
  refine wpN_loop (HexI η D η.nx) 32 ⟨0, .slice (η.nx + 1) 0 0 (.kn 0), rfl, rfl, rfl, rfl, rfl, hd, ho, hE⟩ ?_
  generalize (η.new (.live false (u8s D))).new (.live false []) = η0 at *
  rintro m φ η1 ⟨i, x, hi, p1, p3, p4, p5, d1, ox, E⟩
  by_cases hm : m = 0
  · obtain rfl : i = 32 := by omega
    rw [List.take_of_length_le (by omega)] at ox
    obtain ⟨b, hb1, hb2, rfl, hb3⟩ := own_un ox (by intro h; have := hexL_len D; rw [h] at this; simp at this; omega)
    have hl := hexL_len D
    have hu : (u8s (hexL D)).length = (hexL D).length := u8s_length _
    have ht : (u8s (hexL D)).take (hexL D).length = u8s (hexL D) := List.take_of_length_le (by omega)
    simp -implicitDefEqProofs (disch := omega) only [go_sem, p1, p3, p4, p5, hb3, ht, hexV_eq]
    exact E
  · have hg : (u8s D)[i]? = some (.int .u8 (D.getD i 0)) := by unfold u8s; simp [List.getD_eq_getElem?_getD, List.getElem?_eq_getElem, show i < D.length by omega]
    have hx : D.getD i 0 < 256 := by rw [List.getD_eq_getElem?_getD, List.getElem?_eq_getElem (by omega)]; exact hD2 _ (List.getElem_mem _)
    have htk : D.take (i + 1) = D.take i ++ [D.getD i 0] := by rw [List.take_succ_eq_append_getElem (by omega), List.getD_eq_getElem?_getD, List.getElem?_eq_getElem (by omega)]; rfl
    generalize D.getD i 0 = y at *
    simp -implicitDefEqProofs (disch := omega) only [go_sem, p1, p3, p4, p5, d1, hg, shr4 hx, and15, decide_true, if_true]
    have n0 := E.1
    have EH : ExtB η1.nx η1 (((η1.at_ (η1.nx + (1 + 1 + 1 + 1 + 1 + 1 + 1 + 1 + 1 + 1 + 1 + 1 + 1))).new (.live false [.int .u8 (strAt 136107713667768957684761770045455085872 (y / 16)), .int .u8 (strAt 136107713667768957684761770045455085872 (y % 16))])).at_ (η1.nx + (1 + 1 + 1 + 1 + 1 + 1 + 1 + 1 + 1 + 1 + 1 + 1 + 1 + 1 + 1 + 1))) :=
      ⟨by show η1.nx ≤ η1.nx + (1 + 1 + 1 + 1 + 1 + 1 + 1 + 1 + 1 + 1 + 1 + 1 + 1 + 1 + 1 + 1); omega, fun b hb => by show (if b = η1.nx + (1 + 1 + 1 + 1 + 1 + 1 + 1 + 1 + 1 + 1 + 1 + 1 + 1) then _ else _) = _; rw [if_neg (by omega)]; rfl⟩
    have hb0 : η.nx + 1 ≤ η1.nx := by obtain ⟨b, h1, h2, _⟩ := ox; omega
    obtain ⟨x2, η2, e2, o2, E2, f2⟩ := app_own (base := η.nx + 1) (y := .slice (η1.nx + (1 + 1 + 1 + 1 + 1 + 1 + 1 + 1 + 1 + 1 + 1 + 1 + 1)) 0 2 (.kn 2)) (m := [strAt 136107713667768957684761770045455085872 (y / 16), strAt 136107713667768957684761770045455085872 (y % 16)]) (own_ext ox hb0 EH)
      (.inr ⟨η1.nx + (1 + 1 + 1 + 1 + 1 + 1 + 1 + 1 + 1 + 1 + 1 + 1 + 1), 0, 2, .kn 2, rfl, rfl, Nat.le_refl 2, false, _, by show (if η1.nx + (1 + 1 + 1 + 1 + 1 + 1 + 1 + 1 + 1 + 1 + 1 + 1 + 1) = η1.nx + (1 + 1 + 1 + 1 + 1 + 1 + 1 + 1 + 1 + 1 + 1 + 1 + 1) then _ else _) = _; rw [if_pos rfl], by simp, rfl⟩) (by rw [hexL_len]; simp; omega)
    have d2 : η2.f η.nx = .live false (u8s D) := by rw [E2.2 η.nx (by omega), EH.2 η.nx (by omega)]; exact d1
    have E02 : ExtB η.nx η η2 := (E.trans (EH.mono (by omega))).trans (E2.mono (by omega))
    simp -implicitDefEqProofs (disch := omega) only [go_sem, p1, p3, p4, p5, d1, d2, hg, e2]
    refine ⟨m - 1, by omega, i + 1, x2, by omega, by simp (disch := omega) only [go_sem, p1], by simp (disch := omega) only [go_sem, p3], by simp (disch := omega) only [go_sem], by simp (disch := omega) only [go_sem], d2, ?_, E02⟩
    rw [htk, hexL_snoc]
    exact o2
def HexJ (η : HN) (D : List Nat) (d : Nat) (m : Nat) (φ : FN) (η' : HN) : Prop :=
  ∃ i x b, i + m = 32 ∧ φ 1 = .ptr d 0 ∧ φ 3 = x ∧ φ 6 = .agg (u8s D) ∧ φ 7 = .int .i64 i ∧ Own0 η' x b d (hexL (D.take i)) ∧ d < η'.nx ∧ ExtB d η η'
set_option maxHeartbeats 2000000 in
theorem hex_spec (h9 : ∀ [Deep], nat 9 = none) (η : HN) (D : List Nat) (hD : D.length = 32) (hD2 : ∀ x ∈ D, x < 256) : ∃ v η', CallN Try.prog nat 9 [.agg (u8s D)] η v η' ∧ v = .str (hexL D).length (hexV D) ∧ ExtB η.nx η η' := by
  refine call_of (PT := pl9) Try.func9 rfl h9 ok9 rfl ?_
  have hul : (u8s D).length = 32 := by rw [u8s_length, hD]
  have htt : (u8s D).take 32 = u8s D := List.take_of_length_le (by omega)
  simp -implicitDefEqProofs (disch := omega) only [go_sem, htt]
  have hE : ExtB η.nx η (η.new (.live false (u8s D))) := .new (Nat.le_refl _)
  refine wpN_loop (HexJ η D η.nx) 32 ⟨0, .nilslice, η.nx, rfl, rfl, rfl, rfl, rfl, .inl ⟨rfl, rfl, rfl⟩, Nat.lt_succ_self _, hE⟩ ?_
  generalize η.new (.live false (u8s D)) = η0 at *
  rintro m φ η1 ⟨i, x, b, hi, p1, p3, p6, p7, ox, hd, E⟩
  by_cases hm : m = 0
  · obtain rfl : i = 32 := by omega
    rw [List.take_of_length_le (by omega)] at ox
    have hl := hexL_len D
    rcases ox with ⟨_, h, _⟩ | ⟨rfl, hb3, _, _⟩
    · rw [h] at hl; simp at hl; omega
    have hu : (u8s (hexL D)).length = (hexL D).length := u8s_length _
    have ht : (u8s (hexL D)).take (hexL D).length = u8s (hexL D) := List.take_of_length_le (by omega)
    simp -implicitDefEqProofs (disch := omega) only [go_sem, p1, p3, p6, p7, hb3, ht, hexV_eq]
    exact E
  · have hx : D.getD i 0 < 256 := by rw [List.getD_eq_getElem?_getD, List.getElem?_eq_getElem (by omega)]; exact hD2 _ (List.getElem_mem _)
    have htk : D.take (i + 1) = D.take i ++ [D.getD i 0] := by rw [List.take_succ_eq_append_getElem (by omega), List.getD_eq_getElem?_getD, List.getElem?_eq_getElem (by omega)]; rfl
    have hgd := u8s_getD (l := D) (i := i) (by omega)
    generalize D.getD i 0 = y at *
    simp -implicitDefEqProofs (disch := omega) only [go_sem, p1, p3, p6, p7, hgd, shr4 hx, and15, decide_true, if_true]
    have n0 := E.1
    have EH : ExtB η1.nx η1 (((η1.at_ (η1.nx + (1 + 1 + 1 + 1 + 1 + 1 + 1))).new (.live false [.int .u8 (strAt 136107713667768957684761770045455085872 (y / 16)), .int .u8 (strAt 136107713667768957684761770045455085872 (y % 16))])).at_ (η1.nx + (1 + 1 + 1 + 1 + 1 + 1 + 1 + 1 + 1 + 1))) :=
      ⟨by show η1.nx ≤ η1.nx + (1 + 1 + 1 + 1 + 1 + 1 + 1 + 1 + 1 + 1); omega, fun b hb => by show (if b = η1.nx + (1 + 1 + 1 + 1 + 1 + 1 + 1) then _ else _) = _; rw [if_neg (by omega)]; rfl⟩
    obtain ⟨x2, η2, b2, e2, o2, q2, n2, f2⟩ := app_0 (y := .slice (η1.nx + (1 + 1 + 1 + 1 + 1 + 1 + 1)) 0 2 (.kn 2)) (m := [strAt 136107713667768957684761770045455085872 (y / 16), strAt 136107713667768957684761770045455085872 (y % 16)]) (by have := EH.1; omega) (ox.frame EH.1 fun c hc _ => EH.2 c hc)
      (.inr ⟨η1.nx + (1 + 1 + 1 + 1 + 1 + 1 + 1), 0, 2, .kn 2, rfl, rfl, Nat.le_refl 2, false, _, by show (if η1.nx + (1 + 1 + 1 + 1 + 1 + 1 + 1) = η1.nx + (1 + 1 + 1 + 1 + 1 + 1 + 1) then _ else _) = _; rw [if_pos rfl], by simp, rfl⟩) (by rw [hexL_len]; simp; omega)
    have hbx := ox.lt hd
    have E02 : ExtB η.nx η η2 := (E.trans (EH.mono (by omega))).trans ⟨n2, fun c hc => f2 c (by have := EH.1; omega) (.inl (by omega))⟩
    simp -implicitDefEqProofs (disch := omega) only [go_sem, p1, p3, p6, p7, hgd, e2]
    refine ⟨m - 1, by omega, i + 1, x2, b2, by omega, by simp (disch := omega) only [go_sem, p1], by simp (disch := omega) only [go_sem], by simp (disch := omega) only [go_sem, p6], by simp (disch := omega) only [go_sem], ?_, by have := E02.1; have := EH.1; omega, E02⟩
    rw [htk, hexL_snoc]
    exact o2
end Go.Proofs.Ytfcakkiakodokaa
