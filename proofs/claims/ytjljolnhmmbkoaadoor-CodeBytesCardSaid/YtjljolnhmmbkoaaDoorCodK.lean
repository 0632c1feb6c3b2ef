/- What is proved: CodeBytes, walked. Conditions: as each theorem says. -/
import Derived.Test.YtjljolnhmmbkoaaDoorCodJ
import Derived.Test.YtjljolnhmmbkoaaDoorCodF
set_option linter.unusedVariables false
set_option linter.unusedSimpArgs false
set_option linter.unusedSectionVars false
namespace Go.Proofs.YtjljolnhmmbkoaaDoor
open Go.Eng Go.Plain
set_option autoImplicit false
set_option maxRecDepth 100000
variable {nat : ∀ [Deep], Nats}
attribute [local irreducible] wpN
theorem strEq_refl (n x : Nat) : strEq n x n x = true := by unfold strEq; rw [beq_true.2 rfl, ifB_true, beq_true.2 rfl]
def natOk (i : Ins) : Prop := i.op < 18446744073709551616 ∧ i.a < 18446744073709551616 ∧ i.b < 18446744073709551616 ∧ i.c < 18446744073709551616
set_option maxHeartbeats 4000000 in
theorem bytes_spec (U : Usual nat) (h8 : ∀ [Deep], nat 8 = some trueNat) (h45 : ∀ [Deep], nat 45 = some (fnNat F45)) (X : ShowCtx nat) (η : HN) (ht0 : η.f 0 = .live true tabR) (h0 : 0 < η.nx) (z : PV) (p : PD) (i : Ins) (hi : natOk i) (hp : IsP η z p) (hr : Resd p) :
    ∃ v η', CallN Tryd.prog nat 4 [.agg z.cells, .agg i.cells] η v η' ∧ v = .bool true := by
  have hbody : Tryd.f4.body = some _ := rfl
  refine @call_of Tryd.prog nat pl4 4 Tryd.f4 _ _ [.agg z.cells, .agg i.cells] η Tryd.func4 hbody (U 4 (by decide)) ok4 rfl ?_
  clear hbody
  obtain ⟨op, ia, ib, ic⟩ := i
  obtain ⟨ζ0, hζ⟩ : ∃ ζ, ζ = (η.new (.live false z.cells)).new (.live false [.int .i64 op, .int .i64 ia, .int .i64 ib, .int .i64 ic]) := ⟨_, rfl⟩
  have E0 : ExtB η.nx η ζ0 := by rw [hζ]; exact extN (extN (.refl _ _))
  have m0 : ζ0.nx = η.nx + 2 := by rw [hζ]; rfl
  have a0 : ζ0.f η.nx = .live false z.cells := by rw [hζ]; show (if η.nx = η.nx + 1 then _ else if η.nx = η.nx then _ else _) = _; rw [if_neg (by omega), if_pos rfl]
  have b0 : ζ0.f (η.nx + 1) = .live false [.int .i64 op, .int .i64 ia, .int .i64 ib, .int .i64 ic] := by rw [hζ]; show (if η.nx + 1 = η.nx + 1 then _ else _) = _; rw [if_pos rfl]
  have ei : Ins.cells ⟨op, ia, ib, ic⟩ = [.int .i64 op, .int .i64 ia, .int .i64 ib, .int .i64 ic] := rfl
  rw [ei]
  simp -implicitDefEqProofs (disch := omega) only [go_sem, ← hζ]
  refine thenN_call ⟨_, _, callN_true h8, ?_⟩
  simp -implicitDefEqProofs (disch := omega) only [go_sem, Bool.not_true, a0]
  refine thenN_call (great_then U (hp.ext E0) hr fun η1 E1 => ?_)
  cases hg : greatF p with
  | true => simp -implicitDefEqProofs (disch := omega) only [go_sem]
  | false =>
  have ht := great_tot hg
  have hres := hr.res
  have a1 := (E1.2 η.nx (by omega)).trans a0
  have b1 := (E1.2 (η.nx + 1) (by omega)).trans b0
  have n1 := E1.1
  have F1 := E0.trans (E1.mono E0.1)
  simp -implicitDefEqProofs (disch := omega) only [go_sem, a1]
  refine thenN_call (refenc_then U (hp.ext F1) hres (by omega) fun v2 η2 o2 E2 => ?_)
  have a2 := (E2.2 η.nx (by omega)).trans a1
  have b2 := (E2.2 (η.nx + 1) (by omega)).trans b1
  have n2 := E2.1
  have F2 := F1.trans (E2.mono F1.1)
  have le := encF_len p
  have lp := tail_len p
  have hxe := encF_lt hres
  simp -implicitDefEqProofs (disch := omega) only [go_sem]
  refine thenN_app (n := 0) (l := []) (base := η2.nx) (by decide) (.new0 (η := η2) (row := [])) (o2.rd.ext (.new (Nat.le_refl _))) (by omega) (Nat.le_succ _) fun x3 η3 o3 E3 => ?_
  rw [List.nil_append, Nat.zero_add] at o3
  have E3' : ExtB η2.nx η2 η3 := (ExtB.new (Nat.le_refl _)).trans E3
  have a3 := (E3'.2 η.nx (by omega)).trans a2
  have b3 := (E3'.2 (η.nx + 1) (by omega)).trans b2
  have n3 := E3'.1
  have F3 := F2.trans (E3'.mono F2.1)
  simp -implicitDefEqProofs (disch := omega) only [go_sem]
  refine thenN_call (dec9_then U (OwnA.rdE o3) hxe (by omega) (fun hno η4 E4 => absurd rfl (hno p hres)) fun z' p' hres' he' htot' η4 hp4 E4 => ?_)
  obtain rfl : p' = p := enc_inj hres' hres he'
  have a4 := (E4.2 η.nx (by omega)).trans a3
  have b4 := (E4.2 (η.nx + 1) (by omega)).trans b3
  have n4 := E4.1
  have F4 := F3.trans (E4.mono F3.1)
  simp -implicitDefEqProofs (disch := omega) only [go_sem, a4, b4]
  generalize hζ4 : (η4.new (.live false [.nilslice, .nilslice, .nilslice, .nilslice, .nilslice, .nilslice])).put η4.nx (.live false [z'.z1, z'.z2, z'.z3, z'.z4, z'.z5, z'.z6]) = ζ4 at *
  have G4 : ExtB η4.nx η4 ζ4 := by rw [← hζ4]; exact extP (extN (.refl _ _))
  have m4 : ζ4.nx = η4.nx + 1 := by rw [← hζ4]; rfl
  have a5 := (G4.2 η.nx (by omega)).trans a4
  have b5 := (G4.2 (η.nx + 1) (by omega)).trans b4
  have c5 : ζ4.f η4.nx = .live false z'.cells := by rw [← hζ4]; show (if η4.nx = η4.nx then _ else _) = _; rw [if_pos rfl]
  have F5 := F4.trans (G4.mono F4.1)
  have oB := ((o2.ext E3').ext E4).ext G4
  have sd : strEq (encF p').length (bV (encF p')) (encF p').length (bV (encF p')) = true := (str_dec hxe hxe).trans (decide_eq_true rfl)
  have sb4 := str_enc oB
  refine dE_call (enc_then U (hp.ext F5) hres (by omega) fun v5 ζ5 o5 G5 => ?_)
  have a6 := (G5.2 η.nx (by omega)).trans a5
  have b6 := (G5.2 (η.nx + 1) (by omega)).trans b5
  have c6 := (G5.2 η4.nx (by omega)).trans c5
  have F6 := F5.trans (G5.mono F5.1)
  have n5 := G5.1
  have s5 := str_encE o5
  have sb5 := str_enc (oB.ext G5)
  simp -implicitDefEqProofs (disch := omega) only [go_sem, a5, b5, c5, a6, b6, c6, s5, sb4, sb5, sd]
  refine dE_call (refenc_then U ((hp4.ext G4).ext G5) hres (by omega) fun v6 ζ6 o6 G6 => ?_)
  have a7 := (G6.2 η.nx (by omega)).trans a6
  have b7 := (G6.2 (η.nx + 1) (by omega)).trans b6
  have c7 := (G6.2 η4.nx (by omega)).trans c6
  have F7 := F6.trans (G6.mono F6.1)
  have n6 := G6.1
  have s6 := str_enc o6
  have s56 := str_encE (o5.ext G6)
  have sb6 := str_enc ((oB.ext G5).ext G6)
  simp -implicitDefEqProofs (disch := omega) only [go_sem, a5, b5, c5, a6, b6, c6, a7, b7, c7, s5, s6, s56, sb4, sb5, sb6, sd]
  refine dE_call (same_then U (hp.ext F7) hres (by omega) (((hp4.ext G4).ext G5).ext G6) hres (by omega) fun ζ7 G7 => ?_)
  rw [decide_eq_true (rfl : encF p' = encF p')]
  have a8 := (G7.2 η.nx (by omega)).trans a7
  have b8 := (G7.2 (η.nx + 1) (by omega)).trans b7
  have c8 := (G7.2 η4.nx (by omega)).trans c7
  have F8 := F7.trans (G7.mono F7.1)
  have n7 := G7.1
  have s7 := str_enc (o6.ext G7)
  have s57 := str_encE ((o5.ext G6).ext G7)
  have sb7 := str_enc (((oB.ext G5).ext G6).ext G7)
  simp -implicitDefEqProofs (disch := omega) only [go_sem, a5, b5, c5, a6, b6, c6, a7, b7, c7, a8, b8, c8, s5, s6, s56, s7, s57, sb4, sb5, sb6, sb7, sd]
  have sr := strEq_refl
  have t0 : ζ7.f 0 = .live true tabR := (F8.2 0 h0).trans ht0
  refine dE_call (show_then U X (i := ⟨op, ia, ib, ic⟩) t0 (by have := F8.1; omega) hi fun ζ8 G8 => ?_)
  have a9 := (G8.2 η.nx (by omega)).trans a8
  have b9 := (G8.2 (η.nx + 1) (by omega)).trans b8
  have c9 := (G8.2 η4.nx (by omega)).trans c8
  have n8 := G8.1
  simp -implicitDefEqProofs (disch := omega) only [go_sem, a5, b5, c5, a6, b6, c6, a7, b7, c7, a8, b8, c8, s5, s6, s56, s7, s57, sb4, sb5, sb6, sb7, sd, a9, b9, c9, sr]
  refine dE_call (refshow_then U h45 (i := ⟨op, ia, ib, ic⟩) hi fun ζ9 G9 => ?_)
  have a10 := (G9.2 η.nx (by omega)).trans a9
  have b10 := (G9.2 (η.nx + 1) (by omega)).trans b9
  have c10 := (G9.2 η4.nx (by omega)).trans c9
  have n9 := G9.1
  simp -implicitDefEqProofs (disch := omega) only [go_sem, a5, b5, c5, a6, b6, c6, a7, b7, c7, a8, b8, c8, s5, s6, s56, s7, s57, sb4, sb5, sb6, sb7, sd, a9, b9, c9, a10, b10, c10, sr]
  refine dE_call (name_then U hi.1 fun ζ10 G10 => ?_)
  have a11 := (G10.2 η.nx (by omega)).trans a10
  have b11 := (G10.2 (η.nx + 1) (by omega)).trans b10
  have c11 := (G10.2 η4.nx (by omega)).trans c10
  have n10 := G10.1
  simp -implicitDefEqProofs (disch := omega) only [go_sem, a5, b5, c5, a6, b6, c6, a7, b7, c7, a8, b8, c8, s5, s6, s56, s7, s57, sb4, sb5, sb6, sb7, sd, a9, b9, c9, a10, b10, c10, a11, b11, c11, sr]
  refine dE_call (refname_then U hi.1 fun ζ11 G11 => ?_)
  have a12 := (G11.2 η.nx (by omega)).trans a11
  have b12 := (G11.2 (η.nx + 1) (by omega)).trans b11
  have c12 := (G11.2 η4.nx (by omega)).trans c11
  simp -implicitDefEqProofs (disch := omega) only [go_sem, a5, b5, c5, a6, b6, c6, a7, b7, c7, a8, b8, c8, s5, s6, s56, s7, s57, sb4, sb5, sb6, sb7, sd, a9, b9, c9, a10, b10, c10, a11, b11, c11, a12, b12, c12, sr]
  exact ⟨⟨fun _ h => absurd h (by decide), fun _ h => absurd h (by decide), fun _ h => absurd h (by decide), fun _ h => absurd h (by decide)⟩, fun h => absurd h (by decide), fun h => absurd h (by decide), fun h => absurd h (by decide), fun h => absurd h (by decide)⟩
end Go.Proofs.YtjljolnhmmbkoaaDoor
