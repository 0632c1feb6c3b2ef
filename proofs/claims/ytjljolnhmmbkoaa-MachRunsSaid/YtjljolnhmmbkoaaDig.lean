/- What is proved: a digest's state, by lists: what is added part by part is as added at once. what the functions of a digest do. what New, Add do. what Sum does. what Of does. the document's own digest is the program's. a machine's digest. Conditions: as each theorem says. -/
import Derived.Test.YtjljolnhmmbkoaaWJ
import Derived.Test.YtjljolnhmmbkoaaFacts
import Derived.Test.YtjljolnhmmbkoaaMacE
set_option linter.unusedVariables false
set_option linter.unusedSimpArgs false
set_option linter.unusedSectionVars false
namespace Go.Eng
set_option autoImplicit false
section
variable (F : List Nat → List Nat → List Nat)
noncomputable def blkF (h : List Nat) (l : List Nat) : List Nat := if 64 ≤ l.length then blkF (F h (l.take 64)) (l.drop 64) else h
termination_by l.length
decreasing_by simp; omega
noncomputable def restF (l : List Nat) : List Nat := if 64 ≤ l.length then restF (l.drop 64) else l
termination_by l.length
decreasing_by simp; omega
theorem restF_lt (l : List Nat) : (restF l).length < 64 := by
 induction hn : l.length using Nat.strongRecOn generalizing l with
 | _ n ih =>
  rw [restF]
  by_cases h : 64 ≤ l.length
  ·rw [if_pos h]; exact ih (l.drop 64).length (by simp; omega) _ rfl
  ·rw [if_neg h]; omega
theorem app_F (l m : List Nat) : (∀ h, blkF F h (l ++ m) = blkF F (blkF F h l) (restF l ++ m)) ∧ restF (l ++ m) = restF (restF l ++ m) := by
 induction hn : l.length using Nat.strongRecOn generalizing l with
 | _ n ih =>
  by_cases h : 64 ≤ l.length
  ·have h2 : 64 ≤ (l ++ m).length := by simp; omega
   obtain ⟨i1, i2⟩ := ih (l.drop 64).length (by simp; omega) (l.drop 64) rfl
   have e1 : (l ++ m).take 64 = l.take 64 := by rw [List.take_append_of_le_length h]
   have e2 : (l ++ m).drop 64 = l.drop 64 ++ m := by rw [List.drop_append_of_le_length h]
   have r1 : restF l = restF (l.drop 64) := by rw [restF, if_pos h]
   refine ⟨fun g => ?_, ?_⟩
   ·rw [blkF, if_pos h2, e1, e2, i1, r1]
    congr 1
    rw [blkF.eq_1 F g l, if_pos h]
   ·rw [restF, if_pos h2, e2, i2, r1]
  ·have r1 : restF l = l := by rw [restF, if_neg h]
   refine ⟨fun g => ?_, by rw [r1]⟩
   rw [r1, blkF.eq_1 F g l, if_neg h]
theorem blkF_len (hF : ∀ h l, (F h l).length = 8) (h l : List Nat) (h8 : h.length = 8) : (blkF F h l).length = 8 := by
 induction hn : l.length using Nat.strongRecOn generalizing l h with
 | _ n ih =>
  rw [blkF]
  by_cases hc : 64 ≤ l.length
  ·rw [if_pos hc]; exact ih (l.drop 64).length (by simp; omega) _ _ (hF _ _) rfl
  ·rw [if_neg hc]; exact h8
end
end Go.Eng
namespace Go.Proofs.Ytjljolnhmmbkoaa.Dig
open Go.Eng
set_option autoImplicit false
set_option maxRecDepth 100000
variable {nat : ∀ [Deep], Nats} {F : List Nat → List Nat → List Nat}
structure Ctx (nat : ∀ [Deep], Nats) (F : List Nat → List Nat → List Nat) : Prop where
 len : ∀ h l, (F h l).length = 8
 mix : ∀ (η : HN) (h : List Nat) (b off : Nat) (cap : Cp) (l : List Nat), h.length = 8 → RdS η b off 64 cap l → CallN Try.prog nat 107 [.agg (u32s h), .slice b off 64 cap] η (.agg (u32s (F h l))) η
 none : ∀ [Deep] (f : FuncId), f = 106 ∨ f = 95 ∨ f = 96 ∨ f = 94 ∨ f = 65 → nat f = none
def BlkI (F : List Nat → List Nat → List Nat) (η : HN) (b : Nat) (h0 l0 : List Nat) (m : Nat) (φ : FN) (η' : HN) : Prop :=
 ∃ c l off cap z, φ 1 = .slice b off m cap ∧ φ 2 = .ptr η.nx 0 ∧ φ 4 = .ptr (η.nx + 1) 0 ∧ η'.f η.nx = .live false (u32s c) ∧ c.length = 8 ∧ η'.f (η.nx + 1) = .live false z ∧ z.length = 8 ∧
  RdS η' b off m cap l ∧ m ≤ 1099511627776 ∧ blkF F c l = blkF F h0 l0 ∧ restF l = restF l0 ∧ ExtB η.nx η η' ∧ η.nx + 1 < η'.nx
theorem blocks_spec (X : Ctx nat F) (h : List Nat) (h8 : h.length = 8) (b off n : Nat) (cap : Cp) (l : List Nat) (η : HN) (hbn : b < η.nx) (hr : RdS η b off n cap l) (hmax : n ≤ 1099511627776) :
  ∃ v η', CallN Try.prog nat 106 [.agg (u32s h), .slice b off n cap] η v η' ∧
   (∃ off' n' cap', v = .tup [.agg (u32s (blkF F h l)), .slice b off' n' cap'] ∧ RdS η' b off' n' cap' (restF l)) ∧ ExtB η.nx η η' := by
 refine call_of (PT := pl106) Try.func106 rfl (X.none 106 (.inl rfl)) ok106 rfl ?_
 simp -implicitDefEqProofs (disch := omega) only [go_sem]
 refine wpN_loop (BlkI F η b h l) n ⟨h, l, off, cap, List.replicate 8 (.int .u32 0), ?_⟩ ?_
 ·have hx : ExtB η.nx η ((η.new (.live false (u32s h))).new (.live false [.int .u32 0, .int .u32 0, .int .u32 0, .int .u32 0, .int .u32 0, .int .u32 0, .int .u32 0, .int .u32 0])) :=
   ExtB.trans (.new (Nat.le_refl _)) (.new (Nat.le_succ _))
  refine ⟨rfl, rfl, rfl, ?_, h8, ?_, by simp, hr.ext hx hbn, hmax, rfl, rfl, hx, Nat.lt_succ_self _⟩
  ·show (if η.nx = η.nx + 1 then _ else if η.nx = η.nx then _ else _) = _; rw [if_neg (by omega), if_pos rfl]
  ·show (if η.nx + 1 = η.nx + 1 then _ else _) = _; rw [if_pos rfl]; rfl
 rintro m φ η' ⟨c, l', off', cap', z, h1, h2, h4, hp, c8, hq, z8, hr', hmm, e1, e2, hx, hnx⟩
 obtain ⟨hl, hc', ro, row, hb', hle, hrow⟩ := hr'
 have hu8 := u32s_length c
 by_cases hm : 64 ≤ m
 ·rw [blkF, if_pos (by omega)] at e1
  rw [restF, if_pos (by omega)] at e2
  have hM8 := X.len c (l'.take 64)
  have hM8' := u32s_length (F c (l'.take 64))
  have h64 : ∀ cap2, CapIs 64 1 cap2 → RdS η' b off' 64 cap2 (l'.take 64) := fun cap2 h => by
   refine ⟨by simp; omega, h, ro, row, hb', by omega, ?_⟩
   rw [← u8s_take, ← hrow, List.take_take]; congr 1; omega
  have fin : ∀ (φ' : FN) (cap2 : Cp) (off2 : Nat), (off2 = off' + 64 ∨ m = 64) → off2 + (m - 64) ≤ row.length → CapIs (m - 64) 1 cap2 → φ' 1 = .slice b off2 (m - 64) cap2 → φ' 2 = .ptr η.nx 0 → φ' 4 = .ptr (η.nx + 1) 0 →
    ∃ m', m' < m ∧ BlkI F η b h l m' φ' (η'.put η.nx (.live false (u32s (F c (l'.take 64))))) := by
   intro φ' cap2 off2 ho hle2 hcap p1 p2 p4
   have hx2 : ExtB η.nx η (η'.put η.nx (.live false (u32s (F c (l'.take 64))))) := hx.trans (.put (Nat.le_refl _))
   refine ⟨m - 64, by omega, _, l'.drop 64, off2, cap2, z, p1, p2, p4, ?_, hM8, ?_, z8, ⟨by simp; omega, hcap, ro, row, ?_, hle2, ?_⟩, by omega, e1, e2, hx2, hnx⟩
   ·show (if η.nx = η.nx then _ else _) = _; rw [if_pos rfl]
   ·show (if η.nx + 1 = η.nx then _ else η'.f (η.nx + 1)) = _; rw [if_neg (by omega)]; exact hq
   ·show (if b = η.nx then _ else η'.f b) = _; rw [if_neg (by omega)]; exact hb'
   ·rw [← u8s_drop, ← hrow, List.drop_take, List.drop_drop]
    rcases ho with rfl | rfl
    ·rfl
    ·simp
  cases cap' with
  | kn c' =>
   have hc' : m ≤ c' := hc'
   simp -implicitDefEqProofs (disch := omega) only [go_sem, h1, h2, h4, hp, hb', c8, z8]
   refine dE_call ⟨_, _, X.mix η' c b off' _ _ c8 (h64 (.kn c') (show 64 ≤ c' by omega)), ?_⟩
   simp -implicitDefEqProofs (disch := omega) only [go_sem, h1, h2, h4, hp, hb', c8, z8, hM8]
   by_cases h64 : c' = 64
   ·simp -implicitDefEqProofs (disch := omega) only [go_sem, h64, h2, h4]
    have h0 : m = 64 := by omega
    exact fin _ (.kn 0) off' (.inr h0) (by omega) (show m - 64 ≤ 0 by omega) (by simp [go_sem, h0]) (by simp [go_sem, h2]) (by simp [go_sem, h4])
   ·simp -implicitDefEqProofs (disch := omega) only [go_sem, h2, h4]
    exact fin _ (.kn (c' - 64)) (off' + 64) (.inl rfl) (by omega) (show m - 64 ≤ c' - 64 by omega) (by simp [go_sem]) (by simp [go_sem, h2]) (by simp [go_sem, h4])
  | un es =>
   have hc' : es = 1 := hc'
   simp -implicitDefEqProofs (disch := omega) only [go_sem, h1, h2, h4, hp, hb', c8, z8]
   refine dE_call ⟨_, _, X.mix η' c b off' _ _ c8 (h64 (.un 1) rfl), ?_⟩
   simp -implicitDefEqProofs (disch := omega) only [go_sem, h1, h2, h4, hp, hb', c8, z8, hM8]
   exact fin _ (.un 1) (off' + 64) (.inl rfl) (by omega) rfl (by simp [go_sem]) (by simp [go_sem, h2]) (by simp [go_sem, h4])
 ·rw [blkF, if_neg (by omega)] at e1
  rw [restF, if_neg (by omega)] at e2
  simp -implicitDefEqProofs (disch := omega) only [go_sem, h1, h2, h4, hp, hb', c8, z8, hq]
  have hx2 : ExtB η.nx η (η'.put (η.nx + 1) (.live false (u32s c))) := hx.trans (.put (Nat.le_succ _))
  refine ⟨⟨off', m, cap', by rw [e1], ⟨by rw [← e2]; exact hl, hc', ro, row, ?_, hle, by rw [← e2]; exact hrow⟩⟩, hx2⟩
  show (if b = η.nx + 1 then _ else _) = _; rw [if_neg (by omega)]; exact hb'
end Go.Proofs.Ytjljolnhmmbkoaa.Dig
namespace Go.Proofs.Ytjljolnhmmbkoaa.Dig
open Go.Eng
set_option autoImplicit false
set_option maxRecDepth 100000
variable {nat : ∀ [Deep], Nats} {F : List Nat → List Nat → List Nat}
def H0 : List Nat := [0x6a09e667, 0xbb67ae85, 0x3c6ef372, 0xa54ff53a, 0x510e527f, 0x9b05688c, 0x1f83d9ab, 0x5be0cd19]
def RdBk (η : HN) (bad : List Nat) (y : AV) (l : List Nat) : Prop := Emp y l ∨ ∃ b off n cap, y = .slice b off n cap ∧ RdS η b off n cap l ∧ b < η.nx ∧ b ∉ bad
def HashAt (η : HN) (p : Nat) (bad : List Nat) (h left : List Nat) (n : Nat) : Prop := ∃ y, η.f p = .live false (u32s h ++ [y, .int .u64 n]) ∧ h.length = 8 ∧ p < η.nx ∧ RdBk η bad y left
theorem RdBk.frame {η η' : HN} {bad : List Nat} {y : AV} {l : List Nat} (h : RdBk η bad y l) (hn : η.nx ≤ η'.nx) (hf : ∀ b, b < η.nx → b ∉ bad → η'.f b = η.f b) : RdBk η' bad y l := by
 rcases h with h | ⟨b, off, n, cap, h1, ⟨h2, h3, ro, row, h4, h5⟩, h6, h7⟩
 ·exact .inl h
 ·exact .inr ⟨b, off, n, cap, h1, ⟨h2, h3, ro, row, by rw [hf b h6 h7]; exact h4, h5⟩, by omega, h7⟩
theorem new_spec (X : Ctx nat F) (η : HN) : ∃ v η', CallN Try.prog nat 94 [] η v η' ∧ v = .ptr η.nx 0 ∧ (∀ bad, HashAt η' η.nx bad H0 [] 0) ∧ ExtB η.nx η η' := by
 refine call_of (PT := pl94) Try.func94 rfl (X.none 94 (by simp)) ok94 rfl ?_
 simp -implicitDefEqProofs (disch := omega) only [go_sem]
 refine ⟨fun bad => ⟨.nilslice, ?_, rfl, Nat.lt_succ_self _, .inl ⟨rfl, .inl rfl⟩⟩, .new (Nat.le_refl _)⟩
 show (if η.nx = η.nx then _ else _) = _; rw [if_pos rfl]; rfl
theorem hget8 {h : List Nat} {y z : AV} (h8 : h.length = 8) : (u32s h ++ [y, z])[8]? = some y := by
 rw [List.getElem?_append_right (by rw [u32s_length]; omega), u32s_length, h8]; rfl
theorem hget9 {h : List Nat} {y z : AV} (h8 : h.length = 8) : (u32s h ++ [y, z])[9]? = some z := by
 rw [List.getElem?_append_right (by rw [u32s_length]; omega), u32s_length, h8]; rfl
theorem hset8 {h : List Nat} {y z x : AV} (h8 : h.length = 8) : (u32s h ++ [y, z]).set 8 x = u32s h ++ [x, z] := by
 rw [List.set_append_right _ _ (by rw [u32s_length]; omega), u32s_length, h8]; rfl
theorem hset9 {h : List Nat} {y z x : AV} (h8 : h.length = 8) : (u32s h ++ [y, z]).set 9 x = u32s h ++ [y, x] := by
 rw [List.set_append_right _ _ (by rw [u32s_length]; omega), u32s_length, h8]; rfl
theorem htake {h : List Nat} {t : List AV} (h8 : h.length = 8) : (u32s h ++ t).take 8 = u32s h := by
 rw [List.take_append_of_le_length (by rw [u32s_length]; omega), List.take_of_length_le (by rw [u32s_length]; omega)]
theorem hset0 {h g : List Nat} {t : List AV} (h8 : h.length = 8) (g8 : g.length = 8) : setsL (u32s h ++ t) 0 (u32s g) = u32s g ++ t := by
 obtain ⟨a0, a1, a2, a3, a4, a5, a6, a7, rfl⟩ : ∃ a0 a1 a2 a3 a4 a5 a6 a7, h = [a0, a1, a2, a3, a4, a5, a6, a7] := by
  match h, h8 with | [a0, a1, a2, a3, a4, a5, a6, a7], _ => exact ⟨_, _, _, _, _, _, _, _, rfl⟩
 obtain ⟨b0, b1, b2, b3, b4, b5, b6, b7, rfl⟩ : ∃ a0 a1 a2 a3 a4 a5 a6 a7, g = [a0, a1, a2, a3, a4, a5, a6, a7] := by
  match g, g8 with | [a0, a1, a2, a3, a4, a5, a6, a7], _ => exact ⟨_, _, _, _, _, _, _, _, rfl⟩
 rfl
theorem add_spec (X : Ctx nat F) (η : HN) (p : Nat) (bad : List Nat) (h left l : List Nat) (n m : Nat) (z : AV) (hp : p ∈ bad) (hb : ∀ c ∈ bad, c < η.nx) (x : HashAt η p bad h left n) (hz : RdBk η [p] z l) (hml : m = l.length)
  (hl : left.length < 64) (hm : m ≤ 549755813888) (hn : n ≤ 549755813888) :
  ∃ v η', CallN Try.prog nat 95 [.ptr p 0, z] η v η' ∧ HashAt η' p bad (blkF F h (left ++ l)) (restF (left ++ l)) (n + m) ∧ η.nx ≤ η'.nx ∧ (∀ c, c < η.nx → c ≠ p → η'.f c = η.f c) := by
 obtain ⟨y, h1, h8, hpn, hy⟩ := x
 have hu8 := u32s_length h
 refine call_of (PT := pl95) Try.func95 rfl (X.none 95 (by simp)) ok95 rfl ?_
 simp -implicitDefEqProofs (disch := omega) only [go_sem, h1, hget8 h8]
 have hbase : ExtB η.nx η (η.new (.live false [])) := .new (Nat.le_refl _)
 have hyb : RdB (η.new (.live false [])) y left := by
  rcases hy with hy | ⟨b', off', n', cap', q1, q2, q3, _⟩
  ·exact .inl hy
  ·exact .inr ⟨b', off', n', cap', q1, q2.ext hbase q3⟩
 obtain ⟨x1, η1, e1, o1, E1, _⟩ := app_own (base := η.nx) (x := .slice η.nx 0 0 (.kn 0)) (l := []) (η := η.new (.live false [])) ⟨η.nx, Nat.le_refl _, Nat.lt_succ_self _, .inl ⟨rfl, rfl, [], by show (if η.nx = η.nx then _ else _) = _; rw [if_pos rfl]⟩⟩ hyb (by simp; omega)
 rw [List.nil_append] at o1
 have E1' := hbase.trans E1
 obtain ⟨x2, η2, e2, o2, E2, _⟩ := app_own (base := η.nx) (y := z) (m := l) o1 (by
  rcases hz with hz | ⟨b', off', n', cap', q1, q2, q3, _⟩
  ·exact .inl hz
  ·exact .inr ⟨b', off', n', cap', q1, q2.ext E1' q3⟩) (by omega)
 have hlen : lenN (.slice 5 1 1) z η2 = .ok (.int .i64 m) η2 := by
  rcases hz with ⟨rfl, rfl | ⟨b', off', cap', rfl⟩⟩ | ⟨b', off', n', cap', rfl, q2, _, _⟩
  ·subst hml; rfl
  ·subst hml; rfl
  ·have := q2.1
   subst hml
   rw [lenN_sl, lenI_at, if_pos (by omega), this]
 have E2' := E1'.trans E2
 obtain ⟨b2, n2, c2, rfl, q1, q2, r2⟩ := o2.rd
 have hp2 : η2.f p = .live false (u32s h ++ [y, .int .u64 n]) := (E2'.2 p hpn).trans h1
 have hlr := r2.1
 have n12 := E2'.1
 rw [List.length_append] at hlr
 simp -implicitDefEqProofs (disch := omega) only [go_sem, e1, e2, hlen, hp2, hget9 h8, hset9 h8, htake h8]
 have r3 : RdS (η2.put p (.live false (u32s h ++ [y, .int .u64 (n + m)]))) b2 0 n2 c2 (left ++ l) := by
  obtain ⟨a1, a2, ro, row, a3, a4⟩ := r2
  exact ⟨a1, a2, ro, row, by show (if b2 = p then _ else _) = _; rw [if_neg (by omega)]; exact a3, a4⟩
 obtain ⟨v, η4, hc, ⟨o4, n4, c4, rfl, r4⟩, E4⟩ := blocks_spec X h h8 b2 0 n2 c2 (left ++ l) (η2.put p (.live false (u32s h ++ [y, .int .u64 (n + m)]))) q2 r3 (by omega)
 refine thenN_call ⟨_, η4, hc, ?_⟩
 have hp4 : η4.f p = .live false (u32s h ++ [y, .int .u64 (n + m)]) := (E4.2 p (by show p < η2.nx; omega)).trans (by show (if p = p then _ else _) = _; rw [if_pos rfl])
 have k8 := blkF_len F X.len h (left ++ l) h8
 have hu8' := u32s_length (blkF F h (left ++ l))
 simp -implicitDefEqProofs (disch := omega) only [go_sem, hp4, hset0 h8 k8]
 generalize hη5 : η4.put p (.live false (u32s (blkF F h (left ++ l)) ++ [y, .int .u64 (n + m)])) = η5
 have n24 : η2.nx ≤ η4.nx := E4.1
 have hn5 : η5.nx = η4.nx := by rw [← hη5]; rfl
 have p5 : η5.f p = .live false (u32s (blkF F h (left ++ l)) ++ [y, .int .u64 (n + m)]) := by rw [← hη5]; show (if p = p then _ else _) = _; rw [if_pos rfl]
 have f5 : ∀ c, c ≠ p → η5.f c = η4.f c := fun c hc => by rw [← hη5]; show (if c = p then _ else _) = _; rw [if_neg hc]
 have hbase5 : ExtB η5.nx η5 (η5.new (.live false [])) := .new (Nat.le_refl _)
 have y5 : RdB (η5.new (.live false [])) (.slice b2 o4 n4 c4) (restF (left ++ l)) := by
  obtain ⟨a1, a2, ro, row, a3, a4⟩ := r4
  exact .inr ⟨b2, o4, n4, c4, rfl, a1, a2, ro, row, by rw [hbase5.2 b2 (by omega), f5 b2 (by omega)]; exact a3, a4⟩
 obtain ⟨x6, η6, e6, o6, E6, _⟩ := app_own (base := η5.nx) (x := .slice η4.nx 0 0 (.kn 0)) (l := []) (η := η5.new (.live false [])) ⟨η4.nx, by omega, by show η4.nx < η5.nx + 1; omega, .inl ⟨rfl, rfl, [], by show (if η4.nx = η5.nx then _ else _) = _; rw [if_pos hn5.symm]⟩⟩ y5 (by have := restF_lt (left ++ l); simp; omega)
 rw [List.nil_append] at o6
 have E6' := hbase5.trans E6
 obtain ⟨b6, n6, c6, rfl, s1, s2, r6⟩ := o6.rd
 have hp6 : η6.f p = .live false (u32s (blkF F h (left ++ l)) ++ [y, .int .u64 (n + m)]) := (E6'.2 p (by omega)).trans p5
 simp -implicitDefEqProofs (disch := omega) only [go_sem, e6, hp6, hset8 k8]
 have E65 := E6'.1
 refine ⟨⟨.slice b6 0 n6 c6, ?_, k8, by show p < η6.nx; omega, .inr ⟨b6, 0, n6, c6, rfl, ?_, s2, fun hb6 => ?_⟩⟩, by omega, fun c hc hcp => ?_⟩
 ·show (if p = p then _ else _) = _; rw [if_pos rfl]
 ·obtain ⟨a1, a2, ro, row, a3, a4⟩ := r6
  exact ⟨a1, a2, ro, row, by show (if b6 = p then _ else _) = _; rw [if_neg (by omega)]; exact a3, a4⟩
 ·have := hb b6 hb6; omega
 ·show (if c = p then _ else _) = _
  rw [if_neg hcp, E6'.2 c (by omega), f5 c hcp, E4.2 c (by show c < η2.nx; omega)]
  show (if c = p then _ else _) = _
  rw [if_neg hcp, E2'.2 c hc]
end Go.Proofs.Ytjljolnhmmbkoaa.Dig
namespace Go.Proofs.Ytjljolnhmmbkoaa.Dig
open Go.Eng
set_option autoImplicit false
set_option maxRecDepth 100000
variable {nat : ∀ [Deep], Nats} {F : List Nat → List Nat → List Nat}
def padN (k : Nat) : Nat := (120 - k % 64) % 64
noncomputable def cntB (n i : Nat) : Nat := cvtN .u8 .u64 (shrN .u64 (n * 8) i)
noncomputable def len8 (n : Nat) : List Nat := (List.range 8).map fun j => cntB n (56 - 8 * j)
noncomputable def tailF (l : List Nat) (n : Nat) : List Nat := l ++ [128] ++ List.replicate (padN (l.length + 1)) 0 ++ len8 n
noncomputable def outB (x k : Nat) : Nat := cvtN .u8 .u32 (shrN .u32 x (24 - 8 * k))
noncomputable def outF (v : List Nat) : List Nat := (List.range 32).map fun j => outB (v.getD (j / 4) 0) (j % 4)
noncomputable def dF (v : List Nat) (c : Nat) : List Nat := (List.range 32).map fun j => if j < c then outB (v.getD (j / 4) 0) (j % 4) else 0
theorem dF_length (v : List Nat) (c : Nat) : (dF v c).length = 32 := by simp [dF]
theorem dF_set (v : List Nat) (c : Nat) (hc : c < 32) : (dF v c).set c (outB (v.getD (c / 4) 0) (c % 4)) = dF v (c + 1) := by
 apply List.ext_getElem
 ·simp [dF]
 ·intro i h1 h2
  rw [List.getElem_set]
  by_cases h : c = i
  ·subst h; rw [if_pos rfl]; simp [dF]
  ·rw [if_neg h]
   simp only [dF, List.getElem_map, List.getElem_range]
   by_cases h3 : i < c
   ·rw [if_pos h3, if_pos (by omega)]
   ·rw [if_neg h3, if_neg (by omega)]
theorem dF_all (v : List Nat) : dF v 32 = outF v := by
 unfold dF outF
 apply List.map_congr_left
 intro j hj
 rw [if_pos (by simpa using hj)]
theorem dF_zero (v : List Nat) : u8s (dF v 0) = List.replicate 32 (.int .u8 0) := rfl
theorem u8s_set (l : List Nat) (i x : Nat) : (u8s l).set i (.int .u8 x) = u8s (l.set i x) := List.map_set.symm
@[go_sem] theorem u32s_getD {l : List Nat} {i : Nat} (h : i < l.length) : (u32s l).getD i und = .int .u32 (l.getD i 0) := by
 unfold u32s
 simp [List.getD_eq_getElem?_getD, List.getElem?_eq_getElem, h]
def OutI (η : HN) (V : List Nat) (d q : Nat) (m : Nat) (φ : FN) (η' : HN) : Prop :=
 ∃ i, i + m = 8 ∧ φ 2 = .ptr d 0 ∧ φ 7 = .ptr q 0 ∧ φ 50 = .agg (u32s V) ∧ φ 51 = .int .i64 i ∧ η'.f q = .live false (u8s (dF V (4 * i))) ∧ η'.f d = .live false (List.replicate 32 (.int .u8 0)) ∧ ExtB η.nx η η'
def InI (η : HN) (V : List Nat) (d q i : Nat) (m : Nat) (φ : FN) (η' : HN) : Prop :=
 ∃ k, k + m = 4 ∧ φ 2 = .ptr d 0 ∧ φ 7 = .ptr q 0 ∧ φ 50 = .agg (u32s V) ∧ φ 51 = .int .i64 i ∧ φ 8 = .int .i64 i ∧ φ 9 = .int .u32 (V.getD i 0) ∧ φ 55 = .int .i64 k ∧ η'.f q = .live false (u8s (dF V (4 * i + k))) ∧ η'.f d = .live false (List.replicate 32 (.int .u8 0)) ∧ ExtB η.nx η η'
noncomputable def sumF (F : List Nat → List Nat → List Nat) (h left : List Nat) (n : Nat) : List Nat := outF (blkF F h (tailF left n))
def PadI (η0 : HN) (d p : Nat) (L : List Nat) (m : Nat) (φ : FN) (η' : HN) : Prop :=
 ∃ x j, j + m = padN L.length ∧ φ 0 = .ptr p 0 ∧ φ 2 = .ptr d 0 ∧ φ 3 = x ∧ OwnB (d + 1) η' x (L ++ List.replicate j 0) ∧ ExtB (d + 1) η0 η'
def ival (j : Nat) : Nat := if j ≤ 7 then 56 - 8 * j else 18446744073709551608
def CntI (η0 : HN) (d p : Nat) (L : List Nat) (n : Nat) (m : Nat) (φ : FN) (η' : HN) : Prop :=
 ∃ x j, j + m = 8 ∧ φ 0 = .ptr p 0 ∧ φ 2 = .ptr d 0 ∧ φ 3 = x ∧ φ 4 = .int .i64 (ival j) ∧ OwnB (d + 1) η' x (L ++ (List.range j).map fun j => cntB n (56 - 8 * j)) ∧ ExtB (d + 1) η0 η'
theorem rd_one {η : HN} {x : Nat} : RdB (η.new (.live false [.int .u8 x])) (.slice η.nx 0 1 (.kn 1)) [x] :=
 .inr ⟨η.nx, 0, 1, .kn 1, rfl, rfl, Nat.le_refl 1, false, [.int .u8 x], by show (if η.nx = η.nx then _ else _) = _; rw [if_pos rfl], by simp, rfl⟩
theorem own_ext {base : Nat} {η η' : HN} {x : AV} {l : List Nat} (h : OwnB base η x l) (hb : base ≤ η.nx) (he : ExtB η.nx η η') : OwnB base η' x l := by
 obtain ⟨b, h1, h2, h3⟩ := h
 have := he.1
 refine ⟨b, h1, by omega, ?_⟩
 rw [he.2 b h2]
 exact h3
theorem sum_spec (X : Ctx nat F) (η : HN) (p : Nat) (bad : List Nat) (h left : List Nat) (n : Nat) (x : HashAt η p bad h left n) (hl : left.length < 64) (hn : n ≤ 1099511627776) :
  ∃ v η', CallN Try.prog nat 96 [.ptr p 0] η v η' ∧ v = .agg (u8s (sumF F h left n)) ∧ ExtB η.nx η η' := by
 obtain ⟨y, h1, h8, hpn, hy⟩ := x
 have hu : (u32s h).length = 8 := by rw [u32s_length, h8]
 refine call_of (PT := pl96) Try.func96 rfl (X.none 96 (by simp)) ok96 rfl ?_
 have hp0 : (η.new (.live false (List.replicate 32 (.int .u8 0)))).f p = .live false (u32s h ++ [y, .int .u64 n]) := by show (if p = η.nx then _ else _) = _; rw [if_neg (by omega)]; exact h1
 generalize hη0 : η.new (.live false (List.replicate 32 (.int .u8 0))) = η0 at hp0
 have n0 : η0.nx = η.nx + 1 := by rw [← hη0]; rfl
 simp -implicitDefEqProofs (disch := omega) only [go_sem, hη0, hp0, hget8 h8]
 have hbase : ExtB η0.nx η0 (η0.new (.live false [])) := .new (Nat.le_refl _)
 have hyb : RdB (η0.new (.live false [])) y left := by
  rcases hy with hy | ⟨b', off', n', cap', q1, q2, q3, _⟩
  ·exact .inl hy
  ·refine .inr ⟨b', off', n', cap', q1, (q2.ext (base := η.nx) (η' := η0) ?_ q3).ext hbase (by omega)⟩
   rw [← hη0]; exact .new (Nat.le_refl _)
 obtain ⟨x1, η1, e1, o1, E1, _⟩ := app_own (base := η0.nx) (x := .slice η0.nx 0 0 (.kn 0)) (l := []) (η := η0.new (.live false [])) ⟨η0.nx, Nat.le_refl _, Nat.lt_succ_self _, .inl ⟨rfl, rfl, [], by show (if η0.nx = η0.nx then _ else _) = _; rw [if_pos rfl]⟩⟩ hyb (by simp; omega)
 rw [List.nil_append] at o1
 have E1' := hbase.trans E1
 obtain ⟨x2, η2, e2, o2, E2, _⟩ := app_own (base := η0.nx) (y := .slice η1.nx 0 1 (.kn 1)) (m := [128]) (own_ext o1 E1'.1 (.new (Nat.le_refl _))) rd_one (by simp; omega)
 have E2' := (E1'.trans (.new E1'.1)).trans E2
 simp -implicitDefEqProofs (disch := omega) only [go_sem, e1, e2]
 rw [n0] at o2 E2'
 refine wpN_loop (PadI η0 η.nx p (left ++ [128])) (padN (left.length + 1)) ⟨x2, 0, by simp, rfl, rfl, rfl, by simpa using o2, E2'⟩ ?_
 rintro m φ η' ⟨x, j, hj, p0, p2, p3, ox, Ex⟩
 obtain ⟨bx, nx, cx, rfl, sx1, sx2, rx⟩ := ox.rd
 have hlx := rx.1
 rw [List.length_append, List.length_append, List.length_replicate] at hlx
 simp only [List.length_append, List.length_cons, List.length_nil, Nat.zero_add] at hj hlx
 have hpad : padN (left.length + 1) = (120 - (left.length + 1) % 64) % 64 := rfl
 by_cases hm : m = 0
 ·have hnx : nx % 64 = 56 := by omega
  have hjn : j = padN (left.length + 1) := by omega
  simp -implicitDefEqProofs (disch := omega) only [go_sem, p0, p2, p3, hnx]
  have hLl : (left ++ [128] ++ List.replicate j 0).length < 192 := by simp; omega
  generalize hL : left ++ [128] ++ List.replicate j 0 = L0 at ox rx hLl
  refine wpN_loop (CntI η0 η.nx p L0 n) 8 ⟨.slice bx 0 nx cx, 0, rfl, by simp [go_sem, p0], by simp [go_sem, p2], by simp [go_sem, p3], by simp [go_sem, ival], by simpa using ox, Ex⟩ ?_
  clear rx hlx sx1 sx2 hnx ox
  rintro m2 φ2 η5 ⟨x, k, hk, p0, p2, p3, p4, ox5, Ex5⟩
  obtain ⟨bx5, nx5, cx5, rfl, sx1, sx2, rx⟩ := ox5.rd
  have hlx := rx.1
  simp only [List.length_append, List.length_map, List.length_range] at hlx
  have hp5 : η5.f p = .live false (u32s h ++ [y, .int .u64 n]) := (Ex5.2 p (by omega)).trans hp0
  by_cases hm2 : m2 = 0
  ·have hk8 : k = 8 := by omega
   subst hk8
   have hlt : ltN .i64 18446744073709551608 0 = true := rfl
   obtain ⟨v, η7, hc, ⟨o7, n7, c7, rfl, r7⟩, E7⟩ := blocks_spec X h h8 bx5 0 nx5 cx5 _ η5 sx2 rx (by omega)
   simp -implicitDefEqProofs (disch := omega) only [go_sem, p0, p2, p3, p4, ival, hlt, hp5, hget8 h8, htake h8]
   refine thenN_call ⟨_, η7, hc, ?_⟩
   have k8 := blkF_len F X.len h (L0 ++ (List.range 8).map fun j => cntB n (56 - 8 * j)) h8
   have hku := u32s_length (blkF F h (L0 ++ (List.range 8).map fun j => cntB n (56 - 8 * j)))
   generalize hV : blkF F h (L0 ++ (List.range 8).map fun j => cntB n (56 - 8 * j)) = V at hc k8 hku
   simp -implicitDefEqProofs (disch := omega) only [go_sem, p0, p2, p3, p4, ival]
   have hd0 : η0.f η.nx = .live false (List.replicate 32 (.int .u8 0)) := by rw [← hη0]; show (if η.nx = η.nx then _ else _) = _; rw [if_pos rfl]
   have E57 := E7.1
   have n5 := Ex5.1
   have Eη0 : ExtB η.nx η η0 := by rw [← hη0]; exact .new (Nat.le_refl _)
   have Eη7 : ExtB η.nx η η7 := (Eη0.trans (Ex5.mono (by omega))).trans (E7.mono (by omega))
   have hd7 : η7.f η.nx = .live false (List.replicate 32 (.int .u8 0)) := (E7.2 η.nx (by omega)).trans ((Ex5.2 η.nx (by omega)).trans hd0)
   generalize hη8 : (((η7.new (.live false [.int .u32 0, .int .u32 0, .int .u32 0, .int .u32 0, .int .u32 0, .int .u32 0, .int .u32 0, .int .u32 0])).put η7.nx (.live false (u32s V))).new (.live false (List.replicate 32 (.int .u8 0)))) = η8
   have hq8 : η8.f (η7.nx + 1) = .live false (u8s (dF V 0)) := by rw [← hη8, dF_zero]; show (if η7.nx + 1 = η7.nx + 1 then _ else _) = _; rw [if_pos rfl]
   have E8 : ExtB η.nx η η8 := by rw [← hη8]; exact ((Eη7.trans (.new Eη7.1)).trans (.put Eη7.1)).trans (.new (by show η.nx ≤ η7.nx + 1; have := Eη7.1; omega))
   have hd8 : η8.f η.nx = .live false (List.replicate 32 (.int .u8 0)) := by
    rw [← hη8]
    show (if η.nx = η7.nx + 1 then _ else if η.nx = η7.nx then _ else if η.nx = η7.nx then _ else _) = _
    rw [if_neg (by omega), if_neg (by omega), if_neg (by omega)]; exact hd7
   refine wpN_loop (OutI η V η.nx (η7.nx + 1)) 8 ⟨0, rfl, by simp [go_sem, p2], by simp [go_sem], by simp [go_sem], by simp [go_sem], hq8, hd8, E8⟩ ?_
   generalize hq : η7.nx + 1 = q
   have hqd : η.nx < q := by omega
   clear hq8 hd8 E8 hη8 hd7 Eη7 hc r7 E7 p0 p2 p3 p4 e1 e2 o2 o1 Ex Ex5 ox5 rx
   rintro m3 φ3 η9 ⟨i, hi, z2, z7, z50, z51, zq, zd, zE⟩
   have hdl := u8s_length (dF V (4 * i))
   rw [dF_length] at hdl
   by_cases hm3 : m3 = 0
   ·obtain rfl : i = 8 := by omega
    have hz : (List.replicate 32 (AV.int .u8 0)).length = 32 := rfl
    simp -implicitDefEqProofs (disch := omega) only [go_sem, z2, z7, z50, z51, zq, zd, hz]
    refine ⟨?_, zE.trans (.put (Nat.le_refl _))⟩
    rw [dF_all]
    unfold sumF tailF len8
    rw [← hV, ← hL, hjn]
   ·simp -implicitDefEqProofs (disch := omega) only [go_sem, z2, z7, z50, z51]
    refine wpN_loop (InI η V η.nx q i) 4 ⟨0, rfl, by simp [go_sem, z2], by simp [go_sem, z7], by simp [go_sem, z50], by simp [go_sem, z51], by simp [go_sem], by simp [go_sem, u32s_getD (l := V) (i := i) (by omega)], by simp [go_sem], zq, zd, zE⟩ ?_
    clear hdl z2 z7 z50 z51 zq zd zE
    rintro m4 φ4 η10 ⟨k, hk, z2, z7, z50, z51, z8, z9, z55, zq, zd, zE⟩
    have hdl := u8s_length (dF V (4 * i + k))
    rw [dF_length] at hdl
    by_cases hm4 : m4 = 0
    ·obtain rfl : k = 4 := by omega
     simp -implicitDefEqProofs (disch := omega) only [go_sem, z2, z7, z50, z51, z8, z9, z55]
     exact ⟨m3 - 1, by omega, i + 1, by omega, by simp [go_sem, z2], by simp [go_sem, z7], by simp [go_sem, z50], by simp [go_sem], by rw [show 4 * (i + 1) = 4 * i + 4 by omega]; exact zq, zd, zE⟩
    ·simp -implicitDefEqProofs (disch := omega) only [go_sem, z2, z7, z50, z51, z8, z9, z55, zq]
     refine ⟨m4 - 1, by omega, k + 1, by omega, by simp [go_sem, z2], by simp [go_sem, z7], by simp [go_sem, z50], by simp [go_sem, z51], by simp [go_sem, z8], by simp [go_sem, z9], by simp [go_sem], ?_, ?_, zE.trans (.put (by omega))⟩
     ·show (if q = q then _ else _) = _
      rw [if_pos rfl]
      have e1 : (4 * i + k) / 4 = i := by omega
      have e2 : (4 * i + k) % 4 = k := by omega
      have := dF_set V (4 * i + k) (by omega)
      rw [e1, e2] at this
      unfold outB at this
      rw [u8s_set, this]; rfl
     ·show (if η.nx = q then _ else _) = _; rw [if_neg (by omega)]; exact zd
  ·have hiv : ival k = 56 - 8 * k := by unfold ival; rw [if_pos (by omega)]
   obtain ⟨x6, η6, e6, o6, E6, _⟩ := app_own (base := η.nx + 1) (y := .slice η5.nx 0 1 (.kn 1)) (m := [cntB n (56 - 8 * k)]) (own_ext ox5 (by omega) (.new (Nat.le_refl _))) rd_one (by simp; omega)
   unfold cntB at e6
   simp -implicitDefEqProofs (disch := omega) only [go_sem, p0, p2, p3, p4, hiv, hp5, hget9 h8, e6]
   have hi6 : (56 - 8 * k + 18446744073709551608) % 18446744073709551616 = ival (k + 1) := by unfold ival; split <;> omega
   refine ⟨m2 - 1, by omega, x6, k + 1, by omega, by simp [go_sem, p0], by simp [go_sem, p2], by simp [go_sem], by simp [go_sem, hi6], ?_, (Ex5.trans (.new (by omega))).trans E6⟩
   rw [List.range_succ, List.map_append, ← List.append_assoc]
   exact o6
 ·have hnx : nx % 64 ≠ 56 := by omega
  obtain ⟨x3, η3, e3, o3, E3, _⟩ := app_own (base := η.nx + 1) (y := .slice η'.nx 0 1 (.kn 1)) (m := [0]) (own_ext ox (by omega) (.new (Nat.le_refl _))) rd_one (by simp; omega)
  simp -implicitDefEqProofs (disch := omega) only [go_sem, p0, p2, p3, e3]
  refine ⟨m - 1, by omega, x3, j + 1, by simp; omega, by simp [go_sem, p0], by simp [go_sem, p2], by simp [go_sem], ?_, (Ex.trans (.new (by omega))).trans E3⟩
  rw [List.replicate_succ', ← List.append_assoc]
  exact o3
end Go.Proofs.Ytjljolnhmmbkoaa.Dig
namespace Go.Proofs.Ytjljolnhmmbkoaa.Dig
open Go.Eng
set_option autoImplicit false
set_option maxRecDepth 100000
variable {nat : ∀ [Deep], Nats} {F : List Nat → List Nat → List Nat}
noncomputable def shaF (F : List Nat → List Nat → List Nat) (l : List Nat) : List Nat := sumF F (blkF F H0 l) (restF l) l.length
def Made (F : List Nat → List Nat → List Nat) (η : HN) (p : Nat) (bad : List Nat) (l : List Nat) : Prop := HashAt η p bad (blkF F H0 l) (restF l) l.length
theorem Made.zero {η : HN} {p : Nat} {bad : List Nat} (h : HashAt η p bad H0 [] 0) : Made F η p bad [] := by
 unfold Made
 rw [blkF, restF]
 exact h
theorem made_add (X : Ctx nat F) {η : HN} {p : Nat} {bad : List Nat} {L l : List Nat} {z : AV} (hp : p ∈ bad) (hb : ∀ c ∈ bad, c < η.nx) (x : Made F η p bad L) (hz : RdBk η [p] z l) (hm : l.length ≤ 549755813888) (hn : L.length ≤ 549755813888) :
  ∃ v η', CallN Try.prog nat 95 [.ptr p 0, z] η v η' ∧ Made F η' p bad (L ++ l) ∧ η.nx ≤ η'.nx ∧ (∀ c, c < η.nx → c ≠ p → η'.f c = η.f c) := by
 obtain ⟨v, η', h1, h2, h3⟩ := add_spec X η p bad _ _ l _ _ z hp hb x hz rfl (restF_lt L) hm hn
 refine ⟨v, η', h1, ?_, h3⟩
 obtain ⟨a1, a2⟩ := app_F F L l
 unfold Made
 rw [a1, a2, List.length_append]
 exact h2
theorem made_sum (X : Ctx nat F) {η : HN} {p : Nat} {bad : List Nat} {L : List Nat} (x : Made F η p bad L) (hn : L.length ≤ 1099511627776) :
  ∃ v η', CallN Try.prog nat 96 [.ptr p 0] η v η' ∧ v = .agg (u8s (shaF F L)) ∧ ExtB η.nx η η' := sum_spec X η p bad _ _ _ x (restF_lt L) hn
theorem sumF_len (h left : List Nat) (n : Nat) : (sumF F h left n).length = 32 := by simp [sumF, outF]
theorem of_spec (X : Ctx nat F) (η : HN) (z : AV) (l : List Nat) (hz : RdBk η [] z l) (hm : l.length ≤ 549755813888) : ∃ v η', CallN Try.prog nat 65 [z] η v η' ∧ v = .agg (u8s (shaF F l)) ∧ ExtB η.nx η η' := by
 refine call_of (PT := pl65) Try.func65 rfl (X.none 65 (by simp)) ok65 rfl ?_
 have hd0 : (η.new (.live false (List.replicate 32 (.int .u8 0)))).f η.nx = .live false (List.replicate 32 (.int .u8 0)) := by show (if η.nx = η.nx then _ else _) = _; rw [if_pos rfl]
 have E0 : ExtB η.nx η (η.new (.live false (List.replicate 32 (.int .u8 0)))) := .new (Nat.le_refl _)
 generalize hη0 : η.new (.live false (List.replicate 32 (.int .u8 0))) = η0 at hd0 E0
 have n0 : η0.nx = η.nx + 1 := by rw [← hη0]; rfl
 simp -implicitDefEqProofs (disch := omega) only [go_sem, hη0]
 obtain ⟨v1, η1, c1, rfl, m1, E1⟩ := new_spec X η0
 refine thenN_call ⟨_, η1, c1, ?_⟩
 have n1 : η0.nx < η1.nx := (m1 [η0.nx]).choose_spec.2.2.1
 have hz1 : RdBk η1 [η0.nx] z l := by
  rcases hz with hz | ⟨b', off', n', cap', q1, q2, q3, _⟩
  ·exact .inl hz
  ·exact .inr ⟨b', off', n', cap', q1, (q2.ext E0 q3).ext E1 (by omega), by omega, by simp; omega⟩
 obtain ⟨v2, η2, c2, m2, n2, f2⟩ := made_add X (bad := [η0.nx]) (by simp) (by simpa using n1) (Made.zero (m1 [η0.nx])) hz1 hm (by simp)
 simp -implicitDefEqProofs (disch := omega) only [go_sem]
 refine thenN_call ⟨_, η2, c2, ?_⟩
 obtain ⟨v3, η3, c3, rfl, E3⟩ := made_sum X m2 (by simp; omega)
 simp -implicitDefEqProofs (disch := omega) only [go_sem]
 refine thenN_call ⟨_, η3, c3, ?_⟩
 have hd3 : η3.f η.nx = .live false (List.replicate 32 (.int .u8 0)) := by rw [E3.2 η.nx (by omega), f2 η.nx (by omega) (by omega), E1.2 η.nx (by omega)]; exact hd0
 have hs := u8s_length (shaF F l)
 have hZl : (List.replicate 32 (AV.int .u8 0)).length = 32 := rfl
 have hsl : (shaF F l).length = 32 := sumF_len _ _ _
 simp -implicitDefEqProofs (disch := omega) only [go_sem, hd3]
 have E03 : ExtB η.nx η η3 := ⟨by have := E3.1; omega, fun b hb => by rw [E3.2 b (by omega), f2 b (by omega) (by omega), E1.2 b (by omega), E0.2 b hb]⟩
 exact E03.trans (.put (Nat.le_refl _))
end Go.Proofs.Ytjljolnhmmbkoaa.Dig
namespace Go.Proofs.Ytjljolnhmmbkoaa.Dig
open Go.Eng
set_option autoImplicit false
set_option maxRecDepth 100000
variable {nat : ∀ [Deep], Nats} {F : List Nat → List Nat → List Nat}
def prs : List Nat := [2, 3, 5, 7, 11, 13, 17, 19, 23, 29, 31, 37, 41, 43, 47, 53, 59, 61, 67, 71, 73, 79, 83, 89, 97, 101, 103, 107, 109, 113, 127, 131, 137, 139, 149, 151, 157, 163, 167, 173, 179, 181, 191, 193, 197, 199, 211, 223, 227, 229, 233, 239, 241, 251, 257, 263, 269, 271, 277, 281, 283, 293, 307, 311]
def ks : List Nat := [0x428a2f98, 0x71374491, 0xb5c0fbcf, 0xe9b5dba5, 0x3956c25b, 0x59f111f1, 0x923f82a4, 0xab1c5ed5, 0xd807aa98, 0x12835b01, 0x243185be, 0x550c7dc3, 0x72be5d74, 0x80deb1fe, 0x9bdc06a7, 0xc19bf174, 0xe49b69c1, 0xefbe4786, 0x0fc19dc6, 0x240ca1cc, 0x2de92c6f, 0x4a7484aa, 0x5cb0a9dc, 0x76f988da, 0x983e5152, 0xa831c66d, 0xb00327c8, 0xbf597fc7, 0xc6e00bf3, 0xd5a79147, 0x06ca6351, 0x14292967, 0x27b70a85, 0x2e1b2138, 0x4d2c6dfc, 0x53380d13, 0x650a7354, 0x766a0abb, 0x81c2c92e, 0x92722c85, 0xa2bfe8a1, 0xa81a664b, 0xc24b8b70, 0xc76c51a3, 0xd192e819, 0xd6990624, 0xf40e3585, 0x106aa070, 0x19a4c116, 0x1e376c08, 0x2748774c, 0x34b0bcb5, 0x391c0cb3, 0x4ed8aa4a, 0x5b9cca4f, 0x682e6ff3, 0x748f82ee, 0x78a5636f, 0x84c87814, 0x8cc70208, 0x90befffa, 0xa4506ceb, 0xbef9a3f7, 0xc67178f2]
def u64s (l : List Nat) : List AV := l.map (.int .u64)
structure Ctx2 (nat : ∀ [Deep], Nats) (F : List Nat → List Nat → List Nat) : Prop where
 base : Ctx nat F
 round : ∀ (η : HN) (h : List Nat) (b off : Nat) (cap : Cp) (l : List Nat), h.length = 8 → RdS η b off 64 cap l → CallN Try.prog nat 68 [.agg (u32s h), .agg (u32s ks), .slice b off 64 cap] η (.agg (u32s (F h l))) η
 rootK : ∀ (η : HN) (i : Nat), i < 64 → CallN Try.prog nat 67 [.int .u64 (prs.getD i 0), .int .i64 3] η (.int .u32 (ks.getD i 0)) η
 rootH : ∀ (η : HN) (i : Nat), i < 8 → CallN Try.prog nat 67 [.int .u64 (prs.getD i 0), .int .i64 2] η (.int .u32 (H0.getD i 0)) η
 primes : ∀ (η : HN), CallN Try.prog nat 66 [.int .i64 64] η (.slice η.nx 0 64 (.un 1)) (η.new (.live false (u64s prs)))
 none2 : ∀ [Deep] (f : FuncId), f = 37 ∨ f = 12 ∨ f = 9 → nat f = none
theorem RdBk.rdB {η : HN} {bad : List Nat} {y : AV} {l : List Nat} (h : RdBk η bad y l) : RdB η y l := by
 rcases h with h | ⟨b, off, n, cap, h1, h2, _⟩
 ·exact .inl h
 ·exact .inr ⟨b, off, n, cap, h1, h2⟩
def fillF (l : List Nat) (i : Nat) : List Nat := l.take i ++ List.replicate (l.length - i) 0
theorem fillF_len (l : List Nat) (i : Nat) : (fillF l i).length = l.length := by simp [fillF]; omega
theorem fillF_all (l : List Nat) : fillF l l.length = l := by simp [fillF]
theorem fillF_set (l : List Nat) (i : Nat) (h : i < l.length) : (fillF l i).set i (l.getD i 0) = fillF l (i + 1) := by
 apply List.ext_getElem
 ·simp [fillF]; omega
 ·intro j h1 h2
  rw [List.getElem_set]
  simp only [fillF, List.getElem_append, List.length_take, List.getElem_take, List.getElem_replicate]
  by_cases hj : i = j
  ·subst hj
   rw [if_pos rfl, dif_pos (by omega), List.getD_eq_getElem?_getD, List.getElem?_eq_getElem h]; rfl
  ·rw [if_neg hj]
   by_cases hq : j < i
   ·rw [dif_pos (by omega), dif_pos (by omega)]
   ·rw [dif_neg (by omega), dif_neg (by omega)]
theorem u64s_get {l : List Nat} {i : Nat} (h : i < l.length) : (u64s l)[i]? = some (.int .u64 (l.getD i 0)) := by
 unfold u64s
 simp [List.getD_eq_getElem?_getD, List.getElem?_eq_getElem, h]
theorem u64s_length (l : List Nat) : (u64s l).length = l.length := List.length_map _
theorem u32s_set (l : List Nat) (i x : Nat) : (u32s l).set i (.int .u32 x) = u32s (l.set i x) := List.map_set.symm
theorem prs_len : prs.length = 64 := rfl
theorem ks_len : ks.length = 64 := rfl
def KI (η : HN) (z : AV) (d : Nat) (m : Nat) (φ : FN) (η' : HN) : Prop :=
 ∃ i, i + m = 64 ∧ φ 0 = z ∧ φ 2 = .ptr d 0 ∧ φ 3 = .slice (d + 1) 0 64 (.un 1) ∧ φ 4 = .ptr (d + 2) 0 ∧ φ 5 = .ptr (d + 3) 0 ∧ φ 6 = .int .i64 i ∧ η'.f d = .live false (List.replicate 32 (.int .u8 0)) ∧ η'.f (d + 1) = .live false (u64s prs) ∧
  η'.f (d + 2) = .live false (List.replicate 8 (.int .u32 0)) ∧ η'.f (d + 3) = .live false (u32s (fillF ks i)) ∧ ExtB d η η' ∧ η'.nx = d + 4
def HI (η : HN) (z : AV) (d : Nat) (m : Nat) (φ : FN) (η' : HN) : Prop :=
 ∃ i, i + m = 8 ∧ φ 0 = z ∧ φ 2 = .ptr d 0 ∧ φ 3 = .slice (d + 1) 0 64 (.un 1) ∧ φ 4 = .ptr (d + 2) 0 ∧ φ 5 = .ptr (d + 3) 0 ∧ φ 7 = .int .i64 i ∧ η'.f d = .live false (List.replicate 32 (.int .u8 0)) ∧ η'.f (d + 1) = .live false (u64s prs) ∧
  η'.f (d + 2) = .live false (u32s (fillF H0 i)) ∧ η'.f (d + 3) = .live false (u32s ks) ∧ ExtB d η η' ∧ η'.nx = d + 4
theorem RdBk.len {η η' : HN} {bad : List Nat} {z : AV} {l : List Nat} {e y : Nat} (h : RdBk η bad z l) (hl : l.length ≤ 9223372036854775807) : lenN (.slice e 1 y) z η' = .ok (.int .i64 l.length) η' := by
 rcases h with ⟨rfl, rfl | ⟨b, off, cap, rfl⟩⟩ | ⟨b, off, n, c, rfl, ⟨rfl, _⟩, _⟩
 ·rfl
 ·rfl
 ·rw [lenN_sl, lenI_at, if_pos hl]
theorem own_un {base : Nat} {η : HN} {x : AV} {l : List Nat} (h : OwnB base η x l) (hl : l ≠ []) : ∃ b, base ≤ b ∧ b < η.nx ∧ x = .slice b 0 l.length (.un 1) ∧ η.f b = .live false (u8s l) := by
 obtain ⟨b, h1, h2, ⟨_, h3, _⟩ | ⟨h3, h4⟩⟩ := h
 ·exact absurd h3 hl
 ·exact ⟨b, h1, h2, h3, h4⟩
def RPad (η1 : HN) (z : AV) (l : List Nat) (d : Nat) (m : Nat) (φ : FN) (η' : HN) : Prop :=
 ∃ x j, j + m = padN (l.length + 1) ∧ φ 0 = z ∧ φ 2 = .ptr d 0 ∧ φ 4 = .ptr (d + 2) 0 ∧ φ 5 = .ptr (d + 3) 0 ∧ φ 8 = x ∧ OwnB (d + 4) η' x (l ++ [128] ++ List.replicate j 0) ∧ ExtB (d + 4) η1 η'
def jval (j : Nat) : Nat := if j ≤ 7 then 7 - j else 18446744073709551615
def RCnt (η1 : HN) (z : AV) (L : List Nat) (n d : Nat) (m : Nat) (φ : FN) (η' : HN) : Prop :=
 ∃ x j, j + m = 8 ∧ φ 0 = z ∧ φ 2 = .ptr d 0 ∧ φ 4 = .ptr (d + 2) 0 ∧ φ 5 = .ptr (d + 3) 0 ∧ φ 8 = x ∧ φ 9 = .int .i64 (jval j) ∧ OwnB (d + 4) η' x (L ++ (List.range j).map fun j => cntB n (56 - 8 * j)) ∧ ExtB (d + 4) η1 η'
def RRnd (F : List Nat → List Nat → List Nat) (η : HN) (M : List Nat) (b d : Nat) (m : Nat) (φ : FN) (η' : HN) : Prop :=
 ∃ a c, a + m = M.length ∧ a % 64 = 0 ∧ c.length = 8 ∧ φ 2 = .ptr d 0 ∧ φ 4 = .ptr (d + 2) 0 ∧ φ 5 = .ptr (d + 3) 0 ∧ φ 8 = .slice b 0 M.length (.un 1) ∧ φ 10 = .int .i64 a ∧ η'.f d = .live false (List.replicate 32 (.int .u8 0)) ∧
  η'.f (d + 2) = .live false (u32s c) ∧ η'.f (d + 3) = .live false (u32s ks) ∧ η'.f b = .live false (u8s M) ∧ b < η'.nx ∧ blkF F c (M.drop a) = blkF F H0 M ∧ ExtB d η η'
def ROut (η : HN) (V : List Nat) (d q : Nat) (m : Nat) (φ : FN) (η' : HN) : Prop :=
 ∃ i, i + m = 32 ∧ φ 2 = .ptr d 0 ∧ φ 4 = .ptr (d + 2) 0 ∧ φ 11 = .ptr q 0 ∧ φ 12 = .int .i64 i ∧ η'.f q = .live false (u8s (dF V i)) ∧ η'.f d = .live false (List.replicate 32 (.int .u8 0)) ∧ η'.f (d + 2) = .live false (u32s V) ∧ ExtB d η η'
theorem restF_mod (l : List Nat) : (restF l).length % 64 = l.length % 64 := by
 induction hn : l.length using Nat.strongRecOn generalizing l with
 | _ n ih =>
  rw [restF]
  split
  ·rw [ih (l.drop 64).length (by simp; omega) _ rfl]; simp; omega
  ·rw [hn]
theorem sha_pad (l : List Nat) : outF (blkF F H0 (tailF l l.length)) = shaF F l := by
 unfold shaF sumF
 congr 1
 have h1 : tailF l l.length = l ++ ([128] ++ List.replicate (padN (l.length + 1)) 0 ++ len8 l.length) := by unfold tailF; simp only [List.append_assoc]
 have h2 : tailF (restF l) l.length = restF l ++ ([128] ++ List.replicate (padN (l.length + 1)) 0 ++ len8 l.length) := by
  have : padN ((restF l).length + 1) = padN (l.length + 1) := by
   have := restF_mod l
   unfold padN
   omega
  unfold tailF; rw [this]; simp only [List.append_assoc]
 rw [h1, h2]
 exact (app_F F l _).1 H0
set_option maxHeartbeats 2000000 in
theorem ref_spec (X : Ctx2 nat F) (η : HN) (z : AV) (l : List Nat) (hz : RdBk η [] z l) (hm : l.length ≤ 549755813888) : ∃ v η', CallN Try.prog nat 37 [z] η v η' ∧ v = .agg (u8s (shaF F l)) ∧ ExtB η.nx η η' := by
 refine call_of (PT := pl37) Try.func37 rfl (X.none2 37 (by simp)) ok37 rfl ?_
 simp -implicitDefEqProofs (disch := omega) only [go_sem]
 refine thenN_call ⟨_, _, X.primes _, ?_⟩
 simp -implicitDefEqProofs (disch := omega) only [go_sem]
 refine wpN_loop (KI η z η.nx) 64 ⟨0, rfl, rfl, rfl, rfl, rfl, rfl, rfl, ?_, ?_, ?_, ?_, ?_, ?_⟩ ?_
 ·show (if η.nx = η.nx + 1 + 1 + 1 then _ else if η.nx = η.nx + 1 + 1 then _ else if η.nx = η.nx + 1 then _ else if η.nx = η.nx then _ else _) = _; rw [if_neg (by omega), if_neg (by omega), if_neg (by omega), if_pos rfl]
 ·show (if η.nx + 1 = η.nx + 1 + 1 + 1 then _ else if η.nx + 1 = η.nx + 1 + 1 then _ else if η.nx + 1 = η.nx + 1 then _ else _) = _; rw [if_neg (by omega), if_neg (by omega), if_pos rfl]
 ·show (if η.nx + 2 = η.nx + 1 + 1 + 1 then _ else if η.nx + 2 = η.nx + 1 + 1 then _ else _) = _; rw [if_neg (by omega), if_pos rfl]; rfl
 ·show (if η.nx + 3 = η.nx + 1 + 1 + 1 then _ else _) = _; rw [if_pos rfl]; rfl
 ·exact (((ExtB.new (Nat.le_refl _)).trans (.new (Nat.le_succ _))).trans (.new (by show η.nx ≤ η.nx + 1 + 1; omega))).trans (.new (by show η.nx ≤ η.nx + 1 + 1 + 1; omega))
 ·rfl
 generalize hd : η.nx = d
 rintro m φ η1 ⟨i, hi, p0, p2, p3, p4, p5, p6, d0, d1, d2, d3, E, n1⟩
 by_cases hm0 : m = 0
 ·obtain rfl : i = 64 := by omega
  simp -implicitDefEqProofs (disch := omega) only [go_sem, p0, p2, p3, p4, p5, p6]
  refine wpN_loop (HI η z d) 8 ⟨0, rfl, by simp (disch := omega) only [go_sem, p0], by simp (disch := omega) only [go_sem, p2], by simp (disch := omega) only [go_sem, p3], by simp (disch := omega) only [go_sem, p4], by simp (disch := omega) only [go_sem, p5], by simp (disch := omega) only [go_sem], d0, d1, d2, d3, E, n1⟩ ?_
  clear d0 d1 d2 d3 E n1 hi p0 p2 p3 p4 p5 p6
  rintro m φ η1 ⟨i, hi, p0, p2, p3, p4, p5, p7, d0, d1, d2, d3, E, n1⟩
  by_cases hm0 : m = 0
  ·obtain rfl : i = 8 := by omega
   simp -implicitDefEqProofs (disch := omega) only [go_sem, p0, p2, p3, p4, p5, p7]
   have hzb : RdBk (η1.new (.live false [])) [] z l := (hz.frame E.1 fun b hb _ => E.2 b (by omega)).frame (Nat.le_succ _) fun b hb _ => by show (if b = η1.nx then _ else _) = _; rw [if_neg (by omega)]
   have hH8 : fillF H0 8 = H0 := fillF_all H0
   rw [hH8] at d2
   obtain ⟨x1, η2, e2, o2, E2, _⟩ := app_own (base := d + 4) (x := .slice η1.nx 0 0 (.kn 0)) (l := []) (η := η1.new (.live false [])) ⟨η1.nx, by omega, Nat.lt_succ_self _, .inl ⟨rfl, rfl, [], by show (if η1.nx = η1.nx then _ else _) = _; rw [if_pos rfl]⟩⟩ (hzb.rdB) (by simp; omega)
   rw [List.nil_append] at o2
   have E12 : ExtB (d + 4) η1 η2 := (ExtB.new (by omega)).trans E2
   obtain ⟨x2, η3, e3, o3, E3, _⟩ := app_own (base := d + 4) (y := .slice η2.nx 0 1 (.kn 1)) (m := [128]) (own_ext o2 (by have := E12.1; omega) (.new (Nat.le_refl _))) rd_one (by simp; omega)
   have E13 : ExtB (d + 4) η1 η3 := (E12.trans (.new (by have := E12.1; omega))).trans E3
   simp -implicitDefEqProofs (disch := omega) only [go_sem, e2, e3, p0, p2, p3, p4, p5, p7]
   refine wpN_loop (RPad η1 z l d) (padN (l.length + 1)) ⟨x2, 0, by simp, by simp (disch := omega) only [go_sem, p0], by simp (disch := omega) only [go_sem, p2], by simp (disch := omega) only [go_sem, p4], by simp (disch := omega) only [go_sem, p5], by simp (disch := omega) only [go_sem], by simpa using o3, E13⟩ ?_
   clear e2 e3 o2 o3 E2 E3 E12 E13 p0 p2 p3 p4 p5 p7 d1 hzb hi hm0
   rintro m φ η4 ⟨x, j, hj, p0, p2, p4, p5, p8, ox, Ex⟩
   obtain ⟨bx, nx, cx, rfl, sx1, sx2, rx⟩ := ox.rd
   have hlx := rx.1
   simp only [List.length_append, List.length_replicate, List.length_cons, List.length_nil, Nat.zero_add] at hj hlx
   have hpad : padN (l.length + 1) = (120 - (l.length + 1) % 64) % 64 := rfl
   by_cases hm1 : m = 0
   ·have hnx : nx % 64 = 56 := by omega
    have hjn : j = padN (l.length + 1) := by omega
    simp -implicitDefEqProofs (disch := omega) only [go_sem, p0, p2, p4, p5, p8, hnx]
    have hLl : (l ++ [128] ++ List.replicate j 0).length = nx := by simp; omega
    generalize hL : l ++ [128] ++ List.replicate j 0 = L0 at ox rx hLl
    refine wpN_loop (RCnt η1 z L0 l.length d) 8 ⟨.slice bx 0 nx cx, 0, rfl, by simp (disch := omega) only [go_sem, p0], by simp (disch := omega) only [go_sem, p2], by simp (disch := omega) only [go_sem, p4], by simp (disch := omega) only [go_sem, p5], by simp (disch := omega) only [go_sem, p8], by rfl, by simpa using ox, Ex⟩ ?_
    clear rx sx1 sx2 ox p0 p2 p4 p5 p8 Ex
    rintro m2 φ2 η5 ⟨x, k, hk, p0, p2, p4, p5, p8, p9, ox5, Ex5⟩
    by_cases hm2 : m2 = 0
    ·obtain rfl : k = 8 := by omega
     have hlt : ltN .i64 18446744073709551615 0 = true := rfl
     simp -implicitDefEqProofs (disch := omega) only [go_sem, p0, p2, p4, p5, p8, p9, jval, hlt]
     have hM : L0 ++ (List.range 8).map (fun j => cntB l.length (56 - 8 * j)) = tailF l l.length := by
      unfold tailF len8
      rw [← hL, hjn]
     have hMl : (tailF l l.length).length % 64 = 0 := by rw [← hM]; simp; omega
     rw [hM] at ox5
     have hMm : (tailF l l.length).length ≤ 549755813888 + 200 := by rw [← hM]; simp; omega
     obtain ⟨b5, hb5, hb6, rfl, hb7⟩ := own_un ox5 (by rw [← hM]; simp)
     generalize hMM : tailF l l.length = M at *
     have n5 := Ex5.1
     refine wpN_loop (RRnd F η M b5 d) M.length ⟨0, H0, by omega, by omega, rfl, by simp (disch := omega) only [go_sem, p2], by simp (disch := omega) only [go_sem, p4], by simp (disch := omega) only [go_sem, p5], by simp (disch := omega) only [go_sem, p8], by simp (disch := omega) only [go_sem], ?_, ?_, ?_, hb7, hb6, rfl, E.trans (Ex5.mono (by omega))⟩ ?_
     ·rw [Ex5.2 d (by omega)]; exact d0
     ·rw [Ex5.2 (d + 2) (by omega)]; exact d2
     ·rw [Ex5.2 (d + 3) (by omega)]; exact d3
     clear p0 p2 p4 p5 p8 p9 d0 d2 d3 hb7 hb6
     rintro m3 φ3 η7 ⟨a, c, ha, ha64, c8, p2, p4, p5, p8, p10, q0, q2, q3, qb, qn, qB, qE⟩
     have hu8 := u32s_length c
     have huk := u32s_length ks
     by_cases hm3 : m3 = 0
     ·obtain rfl : a = M.length := by omega
      simp -implicitDefEqProofs (disch := omega) only [go_sem, p2, p4, p5, p8, p10, q2, q3, qb]
      have hc : c = blkF F H0 M := by
       rw [List.drop_length] at qB
       rw [← qB, blkF, if_neg (by simp)]
      have q7 : d < η7.nx := by have := qE.1; omega
      have e7 := qE.1
      have hH : d + 2 < η7.nx := by omega
      have E8 : ExtB d η (η7.new (.live false (List.replicate 32 (.int .u8 0)))) := qE.trans (.new (by omega))
      generalize hη8 : η7.new (.live false (List.replicate 32 (.int .u8 0))) = η8 at E8
      have hw8 : η8.f η7.nx = .live false (u8s (dF c 0)) := by rw [← hη8, dF_zero]; show (if η7.nx = η7.nx then _ else _) = _; rw [if_pos rfl]
      have hd8 : η8.f d = .live false (List.replicate 32 (.int .u8 0)) := by rw [← hη8]; show (if d = η7.nx then _ else _) = _; rw [if_neg (by omega)]; exact q0
      have hh8 : η8.f (d + 2) = .live false (u32s c) := by rw [← hη8]; show (if d + 2 = η7.nx then _ else _) = _; rw [if_neg (by omega)]; exact q2
      refine wpN_loop (ROut η c d η7.nx) 32 ⟨0, rfl, by simp (disch := omega) only [go_sem, p2], by simp (disch := omega) only [go_sem, p4], by simp (disch := omega) only [go_sem], by simp (disch := omega) only [go_sem], hw8, hd8, hh8, E8⟩ ?_
      have hqd : d < η7.nx ∧ d + 2 < η7.nx := ⟨q7, hH⟩
      generalize η7.nx = q at *
      clear hw8 hd8 hh8 E8 hη8 q0 q2 q3 qb qn qB qE p2 p4 p5 p8 p10
      rintro m4 φ4 η9 ⟨i, hi, z2, z4, z11, z12, zq, zd, zh, zE⟩
      have hdl := u8s_length (dF c i)
      rw [dF_length] at hdl
      by_cases hm4 : m4 = 0
      ·obtain rfl : i = 32 := by omega
       have hz2 : (List.replicate 32 (AV.int .u8 0)).length = 32 := rfl
       simp -implicitDefEqProofs (disch := omega) only [go_sem, z2, z4, z11, z12, zq, zd, hz2]
       refine ⟨?_, zE.trans (.put (Nat.le_refl _))⟩
       rw [dF_all, hc, ← hMM, sha_pad]
      ·simp -implicitDefEqProofs (disch := omega) only [go_sem, z2, z4, z11, z12, zq, zd, zh]
       have hdq : d < q ∧ d + 2 < q := hqd
       refine ⟨m4 - 1, by omega, i + 1, by omega, by simp (disch := omega) only [go_sem, z2], by simp (disch := omega) only [go_sem, z4], by simp (disch := omega) only [go_sem, z11], by simp (disch := omega) only [go_sem], ?_, ?_, ?_, zE.trans (.put (by omega))⟩
       ·show (if q = q then _ else _) = _
        rw [if_pos rfl]
        have := dF_set c i (by omega)
        unfold outB at this
        rw [u8s_set, this]
       ·show (if d = q then _ else _) = _; rw [if_neg (by omega)]; exact zd
       ·show (if d + 2 = q then _ else _) = _; rw [if_neg (by omega)]; exact zh
     ·have hkl : (u32s ks).length = 64 := huk
      have hkt : (u32s ks).take 64 = u32s ks := List.take_of_length_le (by omega)
      have h64 : RdS η7 b5 a 64 (.un 1) ((M.drop a).take 64) := by
       refine ⟨by simp; omega, rfl, false, u8s M, qb, by rw [u8s_length]; omega, ?_⟩
       rw [u8s_drop, u8s_take]
      have hF8 := X.base.len c ((M.drop a).take 64)
      have huF := u32s_length (F c ((M.drop a).take 64))
      simp -implicitDefEqProofs (disch := omega) only [go_sem, p2, p4, p5, p8, p10, q2, q3, qb, hkt]
      have ha6 : a + 64 - a = 64 := by omega
      rw [ha6]
      refine dE_call ⟨_, _, X.round η7 c b5 a _ _ c8 h64, ?_⟩
      simp -implicitDefEqProofs (disch := omega) only [go_sem, p2, p4, p5, p8, p10, q2, q3, qb, hkt]
      refine ⟨m3 - 64, by omega, a + 64, F c ((M.drop a).take 64), by omega, by omega, hF8, by simp (disch := omega) only [go_sem, p2], by simp (disch := omega) only [go_sem, p4], by simp (disch := omega) only [go_sem, p5], by simp (disch := omega) only [go_sem, p8], by simp (disch := omega) only [go_sem], ?_, ?_, ?_, ?_, qn, ?_, qE.trans (.put (by omega))⟩
      ·show (if d = d + 2 then _ else _) = _; rw [if_neg (by omega)]; exact q0
      ·show (if d + 2 = d + 2 then _ else _) = _; rw [if_pos rfl]
      ·show (if d + 3 = d + 2 then _ else _) = _; rw [if_neg (by omega)]; exact q3
      ·show (if b5 = d + 2 then _ else _) = _; rw [if_neg (by omega)]; exact qb
      ·have hq := qB
       rw [blkF, if_pos (by simp; omega), List.drop_drop] at hq
       exact hq
    ·have hjv : jval k = 7 - k := by unfold jval; rw [if_pos (by omega)]
     obtain ⟨x6, η6, e6, o6, E6, _⟩ := app_own (base := d + 4) (y := .slice η5.nx 0 1 (.kn 1)) (m := [cntB l.length (8 * (7 - k))]) (own_ext ox5 (by have := Ex5.1; omega) (.new (Nat.le_refl _))) rd_one (by simp; omega)
     unfold cntB at e6
     have hzl : ∀ η', lenN (.slice 5 1 1) z η' = .ok (.int .i64 l.length) η' := fun η' => hz.len (η' := η') (e := 5) (y := 1) (by omega)
     simp -implicitDefEqProofs (disch := omega) only [go_sem, p0, p2, p4, p5, p8, p9, hjv, hzl, e6]
     have hi6 : (7 - k + 18446744073709551615) % 18446744073709551616 = jval (k + 1) := by unfold jval; split <;> omega
     refine ⟨m2 - 1, by omega, x6, k + 1, by omega, by simp (disch := omega) only [go_sem, p0], by simp (disch := omega) only [go_sem, p2], by simp (disch := omega) only [go_sem, p4], by simp (disch := omega) only [go_sem, p5], by simp (disch := omega) only [go_sem], by simp (disch := omega) only [go_sem, hi6], ?_, (Ex5.trans (.new (by have := Ex5.1; omega))).trans E6⟩
     rw [List.range_succ, List.map_append, ← List.append_assoc, List.map_singleton, show 56 - 8 * k = 8 * (7 - k) by omega]
     exact o6
   ·have hnx : nx % 64 ≠ 56 := by omega
    obtain ⟨x3, η3, e3, o3, E3, _⟩ := app_own (base := d + 4) (y := .slice η4.nx 0 1 (.kn 1)) (m := [0]) (own_ext ox (by have := Ex.1; omega) (.new (Nat.le_refl _))) rd_one (by simp; omega)
    simp -implicitDefEqProofs (disch := omega) only [go_sem, p0, p2, p4, p5, p8, e3]
    refine ⟨m - 1, by omega, x3, j + 1, by omega, by simp (disch := omega) only [go_sem, p0], by simp (disch := omega) only [go_sem, p2], by simp (disch := omega) only [go_sem, p4], by simp (disch := omega) only [go_sem, p5], by simp (disch := omega) only [go_sem], ?_, (Ex.trans (.new (by have := Ex.1; omega))).trans E3⟩
    rw [List.replicate_succ', ← List.append_assoc]
    exact o3
  ·have hp := u64s_get (l := prs) (i := i) (by rw [prs_len]; omega)
   have hpl := u64s_length prs
   have hkl : (u32s (fillF H0 i)).length = 8 := by rw [u32s_length, fillF_len]; rfl
   simp -implicitDefEqProofs (disch := omega) only [go_sem, p0, p2, p3, p4, p5, p7, d1, d2, hp]
   refine thenN_call ⟨_, _, X.rootH _ i (by omega), ?_⟩
   simp -implicitDefEqProofs (disch := omega) only [go_sem, p0, p2, p3, p4, p5, p7, d1, d2, d3, hp]
   refine ⟨m - 1, by omega, i + 1, by omega, by simp (disch := omega) only [go_sem, p0], by simp (disch := omega) only [go_sem, p2], by simp (disch := omega) only [go_sem, p3], by simp (disch := omega) only [go_sem, p4], by simp (disch := omega) only [go_sem, p5], by simp (disch := omega) only [go_sem], ?_, ?_, ?_, ?_, E.trans (.put (by omega)), n1⟩
   ·show (if d = d + 2 then _ else _) = _; rw [if_neg (by omega)]; exact d0
   ·show (if d + 1 = d + 2 then _ else _) = _; rw [if_neg (by omega)]; exact d1
   ·show (if d + 2 = d + 2 then _ else _) = _; rw [if_pos rfl, u32s_set, fillF_set H0 i (by show i < 8; omega)]
   ·show (if d + 3 = d + 2 then _ else _) = _; rw [if_neg (by omega)]; exact d3
 ·have hp := u64s_get (l := prs) (i := i) (by rw [prs_len]; omega)
  have hpl := u64s_length prs
  have hkl : (u32s (fillF ks i)).length = 64 := by rw [u32s_length, fillF_len]; rfl
  simp -implicitDefEqProofs (disch := omega) only [go_sem, p0, p2, p3, p4, p5, p6, d1, d2, hp]
  refine thenN_call ⟨_, _, X.rootK _ i (by omega), ?_⟩
  simp -implicitDefEqProofs (disch := omega) only [go_sem, p0, p2, p3, p4, p5, p6, d1, d2, d3, hp]
  refine ⟨m - 1, by omega, i + 1, by omega, by simp (disch := omega) only [go_sem, p0], by simp (disch := omega) only [go_sem, p2], by simp (disch := omega) only [go_sem, p3], by simp (disch := omega) only [go_sem, p4], by simp (disch := omega) only [go_sem, p5], by simp (disch := omega) only [go_sem], ?_, ?_, ?_, ?_, E.trans (.put (by omega)), n1⟩
  ·show (if d = d + 3 then _ else _) = _; rw [if_neg (by omega)]; exact d0
  ·show (if d + 1 = d + 3 then _ else _) = _; rw [if_neg (by omega)]; exact d1
  ·show (if d + 2 = d + 3 then _ else _) = _; rw [if_neg (by omega)]; exact d2
  ·show (if d + 3 = d + 3 then _ else _) = _; rw [if_pos rfl, u32s_set, fillF_set ks i (by rw [ks_len]; omega)]
end Go.Proofs.Ytjljolnhmmbkoaa.Dig
namespace Go.Proofs.Ytjljolnhmmbkoaa
open Go.Eng Go.Plain
set_option autoImplicit false
set_option maxRecDepth 100000
variable {nat : ∀ [Deep], Nats} {F : List Nat → List Nat → List Nat}
theorem _root_.Go.Eng.OwnK.bk {base c : Nat} {η : HN} {x : AV} {l : List Nat} (h : OwnK base η x l.length c (u8s l)) : Dig.RdBk η [] x l := by
 obtain ⟨b, rest, rfl, h1, h2, h3, h4, h5⟩ := h
 exact .inr ⟨b, 0, _, _, rfl, ⟨rfl, by show l.length ≤ c; omega, false, _, h5, by rw [List.length_append]; omega, by rw [List.drop_zero, List.take_append_of_le_length (by omega), List.take_of_length_le (by omega)]⟩, h2, nofun⟩
theorem stateB_len (t : Nat) (l : List Nat) : (stateB t l).length ≤ 20 + 10 * l.length := by
 unfold stateB
 have h1 := uv_len t
 have h2 := uv_len l.length
 have h3 := nums_len l
 rw [List.length_append, List.length_append]; omega
theorem digest_then (U : Usual nat) (X : Dig.Ctx nat F) {η : HN} {lo hi mp mb ticks : Nat} {z : PV} {p : PD} {ms : List Nat} {Q : AV → HN → Prop} (M : MachAt lo hi η mp mb z p ms ticks) (hm : ms.length ≤ 1000000)
  (h : ∀ η', ExtB η.nx η η' → Q (.agg (u8s (Dig.shaF F (stateB ticks ms)))) η') : ∃ v η', CallN Try.prog nat 36 [.ptr mp 0] η v η' ∧ Q v η' := by
 refine call_of (PT := pl36) Try.func36 rfl (U 36 (by decide)) ok36 rfl ?_
 simp -implicitDefEqProofs (disch := omega) only [go_sem]
 have E1 : ExtB η.nx η (η.new (.live false (List.replicate 32 (.int .u8 0)))) := extN (.refl _ _)
 have x1 : (η.new (.live false (List.replicate 32 (.int .u8 0)))).f η.nx = .live false (List.replicate 32 (.int .u8 0)) := by show (if η.nx = η.nx then _ else _) = _; rw [if_pos rfl]
 have n1 : (η.new (.live false (List.replicate 32 (.int .u8 0)))).nx = η.nx + 1 := rfl
 generalize η.new (.live false (List.replicate 32 (.int .u8 0))) = η1 at *
 refine thenN_call (state_own U (M.keep E1.1 fun b hb _ => E1.2 b hb) hm fun v2 η2 c o2 E2 => ?_)
 have x2 := (E2.2 _ (by omega)).trans x1
 have F2 := extT E1 E2
 simp -implicitDefEqProofs (disch := omega) only [go_sem]
 obtain ⟨v3, η3, k3, rfl, E3⟩ := Dig.of_spec X η2 v2 (stateB ticks ms) o2.bk (by have := stateB_len ticks ms; omega)
 refine thenN_call ⟨_, _, k3, ?_⟩
 have g2 := E2.1
 have x3 := (E3.2 _ (by omega)).trans x2
 have F3 := extT F2 E3
 have hl : (u8s (Dig.shaF F (stateB ticks ms))).length = 32 := by rw [u8s_length]; exact Dig.sumF_len _ _ _
 have hr : (List.replicate 32 (AV.int .u8 0)).length = 32 := List.length_replicate
 simp -implicitDefEqProofs (disch := omega) only [go_sem, x3, hl, hr]
 exact h _ (F3.trans (.put (Nat.le_refl _)))
theorem eqB64 : eqB Try.prog 64 = ⟨q2 fun xs ys => qElems qInt false 1 xs ys 32 0⟩ := by kernel_rfl
theorem eq64_rfl (l : List Nat) (hl : l.length = 32) : (eqB Try.prog 64).f (.agg (u8s l)) (.agg (u8s l)) = some true := by
 have := eq_ints (k := .u8) hl hl
 rw [decide_eq_true rfl] at this
 rw [eqB64]; exact this
theorem good64 (b : Bool) : goodEq Try.prog 64 b = true := by cases b <;> kernel_rfl
end Go.Proofs.Ytjljolnhmmbkoaa
