/- What is proved: what Sum does. Conditions: the mixing of one block is told. -/
import Derived.Test.YtfcakkiakodokaaSha3
set_option linter.unusedVariables false
set_option linter.unusedSimpArgs false
set_option linter.unusedSectionVars false
namespace Go.Proofs.Ytfcakkiakodokaa
open Go.Eng
set_option autoImplicit false
set_option maxRecDepth 100000
variable {nat : ∀ [Deep], Nats} {F : List Nat → List Nat → List Nat}
/-- how many noughts are laid behind -/
def padN (k : Nat) : Nat := (120 - k % 64) % 64
noncomputable def cntB (n i : Nat) : Nat := cvtN .u8 .u64 (shrN .u64 (n * 8) i)
noncomputable def len8 (n : Nat) : List Nat := (List.range 8).map fun j => cntB n (56 - 8 * j)
noncomputable def tailF (l : List Nat) (n : Nat) : List Nat := l ++ [128] ++ List.replicate (padN (l.length + 1)) 0 ++ len8 n
noncomputable def outB (x k : Nat) : Nat := cvtN .u8 .u32 (shrN .u32 x (24 - 8 * k))
noncomputable def outF (v : List Nat) : List Nat := (List.range 32).map fun j => outB (v.getD (j / 4) 0) (j % 4)
/-- the digest, its first c bytes told -/
noncomputable def dF (v : List Nat) (c : Nat) : List Nat := (List.range 32).map fun j => if j < c then outB (v.getD (j / 4) 0) (j % 4) else 0
theorem dF_length (v : List Nat) (c : Nat) : (dF v c).length = 32 := by simp [dF]
theorem dF_set (v : List Nat) (c : Nat) (hc : c < 32) : (dF v c).set c (outB (v.getD (c / 4) 0) (c % 4)) = dF v (c + 1) := by
  apply List.ext_getElem
  · simp [dF]
  · intro i h1 h2
    rw [List.getElem_set]
    by_cases h : c = i
    · subst h; rw [if_pos rfl]; simp [dF]
    · rw [if_neg h]
      simp only [dF, List.getElem_map, List.getElem_range]
      by_cases h3 : i < c
      · rw [if_pos h3, if_pos (by omega)]
      · rw [if_neg h3, if_neg (by omega)]
theorem dF_all (v : List Nat) : dF v 32 = outF v := by
  unfold dF outF
  apply List.map_congr_left
  intro j hj
  rw [if_pos (by simpa using hj)]
theorem dF_zero (v : List Nat) : u8s (dF v 0) = List.replicate 32 (.int .u8 0) := rfl
theorem u8s_set (l : List Nat) (i x : Nat) : (u8s l).set i (.int .u8 x) = u8s (l.set i x) := List.map_set.symm
@[go_sem] theorem u32s_getD {l : List Nat} {i : Nat} (h : i < l.length) : (u32s l).getD i und = .int .u32 (l.getD i 0) := by
  unfold u32s
  simp [List.getD_eq_getElem?_getD, List.getElem?_eq_getElem, h]
@[go_sem] theorem u8s_getD {l : List Nat} {i : Nat} (h : i < l.length) : (u8s l).getD i und = .int .u8 (l.getD i 0) := by
  unfold u8s
  simp [List.getD_eq_getElem?_getD, List.getElem?_eq_getElem, h]
def OutI (η : HN) (V : List Nat) (d q : Nat) (m : Nat) (φ : FN) (η' : HN) : Prop :=
  ∃ i, i + m = 8 ∧ φ 2 = .ptr d 0 ∧ φ 7 = .ptr q 0 ∧ φ 50 = .agg (u32s V) ∧ φ 51 = .int .i64 i ∧ η'.f q = .live false (u8s (dF V (4 * i))) ∧ η'.f d = .live false (List.replicate 32 (.int .u8 0)) ∧ ExtB η.nx η η'
def InI (η : HN) (V : List Nat) (d q i : Nat) (m : Nat) (φ : FN) (η' : HN) : Prop :=
  ∃ k, k + m = 4 ∧ φ 2 = .ptr d 0 ∧ φ 7 = .ptr q 0 ∧ φ 50 = .agg (u32s V) ∧ φ 51 = .int .i64 i ∧ φ 8 = .int .i64 i ∧ φ 9 = .int .u32 (V.getD i 0) ∧ φ 55 = .int .i64 k ∧ η'.f q = .live false (u8s (dF V (4 * i + k))) ∧ η'.f d = .live false (List.replicate 32 (.int .u8 0)) ∧ ExtB η.nx η η'
noncomputable def sumF (F : List Nat → List Nat → List Nat) (h left : List Nat) (n : Nat) : List Nat := outF (blkF F h (tailF left n))
def PadI (η0 : HN) (d p : Nat) (L : List Nat) (m : Nat) (φ : FN) (η' : HN) : Prop :=
  ∃ x j, j + m = padN L.length ∧ φ 0 = .ptr p 0 ∧ φ 2 = .ptr d 0 ∧ φ 3 = x ∧ OwnB (d + 1) η' x (L ++ List.replicate j 0) ∧ ExtB (d + 1) η0 η'
def ival (j : Nat) : Nat := if j ≤ 7 then 56 - 8 * j else 18446744073709551608
def CntI (η0 : HN) (d p : Nat) (L : List Nat) (n : Nat) (m : Nat) (φ : FN) (η' : HN) : Prop :=
  ∃ x j, j + m = 8 ∧ φ 0 = .ptr p 0 ∧ φ 2 = .ptr d 0 ∧ φ 3 = x ∧ φ 4 = .int .i64 (ival j) ∧ OwnB (d + 1) η' x (L ++ (List.range j).map fun j => cntB n (56 - 8 * j)) ∧ ExtB (d + 1) η0 η'
theorem rd_one {η : HN} {x : Nat} : RdB (η.new (.live false [.int .u8 x])) (.slice η.nx 0 1 (.kn 1)) [x] :=
  .inr ⟨η.nx, 0, 1, .kn 1, rfl, rfl, Nat.le_refl 1, false, [.int .u8 x], by show (if η.nx = η.nx then _ else _) = _; rw [if_pos rfl], by simp, rfl⟩
theorem own_ext {base : Nat} {η η' : HN} {x : AV} {l : List Nat} (h : OwnB base η x l) (hb : base ≤ η.nx) (he : ExtB η.nx η η') : OwnB base η' x l := by
  obtain ⟨b, h1, h2, h3⟩ := h
  have := he.1
  refine ⟨b, h1, by omega, ?_⟩
  rw [he.2 b h2]
  exact h3
theorem sum_spec (X : Ctx nat F) (η : HN) (p : Nat) (bad : List Nat) (h left : List Nat) (n : Nat) (x : HashAt η p bad h left n) (hl : left.length < 64) (hn : n ≤ 1099511627776) :
    ∃ v η', CallN Try.prog nat 15 [.ptr p 0] η v η' ∧ v = .agg (u8s (sumF F h left n)) ∧ ExtB η.nx η η' := by
  obtain ⟨y, h1, h8, hpn, hy⟩ := x
  have hu : (u32s h).length = 8 := by rw [u32s_length, h8]
  refine call_of (PT := pl15) Try.func15 rfl (X.none 15 (by simp)) ok15 rfl ?_
  have hp0 : (η.new (.live false (List.replicate 32 (.int .u8 0)))).f p = .live false (u32s h ++ [y, .int .u64 n]) := by show (if p = η.nx then _ else _) = _; rw [if_neg (by omega)]; exact h1
  generalize hη0 : η.new (.live false (List.replicate 32 (.int .u8 0))) = η0 at hp0
  have n0 : η0.nx = η.nx + 1 := by rw [← hη0]; rfl
  simp -implicitDefEqProofs (disch := omega) only [go_sem, hη0, hp0, hget8 h8]
  have hbase : ExtB η0.nx η0 (η0.new (.live false [])) := .new (Nat.le_refl _)
  have hyb : RdB (η0.new (.live false [])) y left := by
    rcases hy with hy | ⟨b', off', n', cap', q1, q2, q3, _⟩
    · exact .inl hy
    · refine .inr ⟨b', off', n', cap', q1, (q2.ext (base := η.nx) (η' := η0) ?_ q3).ext hbase (by omega)⟩
      rw [← hη0]; exact .new (Nat.le_refl _)
  obtain ⟨x1, η1, e1, o1, E1, _⟩ := app_own (base := η0.nx) (x := .slice η0.nx 0 0 (.kn 0)) (l := []) (η := η0.new (.live false [])) ⟨η0.nx, Nat.le_refl _, Nat.lt_succ_self _, .inl ⟨rfl, rfl, [], by show (if η0.nx = η0.nx then _ else _) = _; rw [if_pos rfl]⟩⟩ hyb (by simp; omega)
  rw [List.nil_append] at o1
  have E1' := hbase.trans E1
  obtain ⟨x2, η2, e2, o2, E2, _⟩ := app_own (base := η0.nx) (y := .slice η1.nx 0 1 (.kn 1)) (m := [128]) (own_ext o1 E1'.1 (.new (Nat.le_refl _))) rd_one (by simp; omega)
  have E2' := (E1'.trans (.new E1'.1)).trans E2
  simp -implicitDefEqProofs (disch := omega) only [go_sem, e1, e2]
  rw [n0] at o2 E2'
  refine wpN_loop (PadI η0 η.nx p (left ++ [128])) (padN (left.length + 1)) ⟨x2, 0, by simp, rfl, rfl, rfl, by simpa using o2, E2'⟩ ?_
  rintro m φ η' ⟨x, j, hj, p0, p2, p3, ox, Ex⟩
  obtain ⟨bx, nx, cx, rfl, sx1, sx2, rx⟩ := ox.rd
  have hlx := rx.1
  rw [List.length_append, List.length_append, List.length_replicate] at hlx
  simp only [List.length_append, List.length_cons, List.length_nil, Nat.zero_add] at hj hlx
  have hpad : padN (left.length + 1) = (120 - (left.length + 1) % 64) % 64 := rfl
  by_cases hm : m = 0
  · have hnx : nx % 64 = 56 := by omega
    have hjn : j = padN (left.length + 1) := by omega
    simp -implicitDefEqProofs (disch := omega) only [go_sem, p0, p2, p3, hnx]
    have hLl : (left ++ [128] ++ List.replicate j 0).length < 192 := by simp; omega
    generalize hL : left ++ [128] ++ List.replicate j 0 = L0 at ox rx hLl
    refine wpN_loop (CntI η0 η.nx p L0 n) 8 ⟨.slice bx 0 nx cx, 0, rfl, by simp [go_sem, p0], by simp [go_sem, p2], by simp [go_sem, p3], by simp [go_sem, ival], by simpa using ox, Ex⟩ ?_
    clear rx hlx sx1 sx2 hnx ox
    rintro m2 φ2 η5 ⟨x, k, hk, p0, p2, p3, p4, ox5, Ex5⟩
    obtain ⟨bx5, nx5, cx5, rfl, sx1, sx2, rx⟩ := ox5.rd
    have hlx := rx.1
    simp only [List.length_append, List.length_map, List.length_range] at hlx
    have hp5 : η5.f p = .live false (u32s h ++ [y, .int .u64 n]) := (Ex5.2 p (by omega)).trans hp0
    by_cases hm2 : m2 = 0
    · have hk8 : k = 8 := by omega
      subst hk8
      have hlt : ltN .i64 18446744073709551608 0 = true := rfl
      obtain ⟨v, η7, hc, ⟨o7, n7, c7, rfl, r7⟩, E7⟩ := blocks_spec X h h8 bx5 0 nx5 cx5 _ η5 sx2 rx (by omega)
      simp -implicitDefEqProofs (disch := omega) only [go_sem, p0, p2, p3, p4, ival, hlt, hp5, hget8 h8, htake h8]
      refine thenN_call ⟨_, η7, hc, ?_⟩
      have k8 := blkF_len F X.len h (L0 ++ (List.range 8).map fun j => cntB n (56 - 8 * j)) h8
      have hku := u32s_length (blkF F h (L0 ++ (List.range 8).map fun j => cntB n (56 - 8 * j)))
      generalize hV : blkF F h (L0 ++ (List.range 8).map fun j => cntB n (56 - 8 * j)) = V at hc k8 hku
      simp -implicitDefEqProofs (disch := omega) only [go_sem, p0, p2, p3, p4, ival]
      have hd0 : η0.f η.nx = .live false (List.replicate 32 (.int .u8 0)) := by rw [← hη0]; show (if η.nx = η.nx then _ else _) = _; rw [if_pos rfl]
      have E57 := E7.1
      have n5 := Ex5.1
      have Eη0 : ExtB η.nx η η0 := by rw [← hη0]; exact .new (Nat.le_refl _)
      have Eη7 : ExtB η.nx η η7 := (Eη0.trans (Ex5.mono (by omega))).trans (E7.mono (by omega))
      have hd7 : η7.f η.nx = .live false (List.replicate 32 (.int .u8 0)) := (E7.2 η.nx (by omega)).trans ((Ex5.2 η.nx (by omega)).trans hd0)
      generalize hη8 : (((η7.new (.live false [.int .u32 0, .int .u32 0, .int .u32 0, .int .u32 0, .int .u32 0, .int .u32 0, .int .u32 0, .int .u32 0])).put η7.nx (.live false (u32s V))).new (.live false (List.replicate 32 (.int .u8 0)))) = η8
      have hq8 : η8.f (η7.nx + 1) = .live false (u8s (dF V 0)) := by rw [← hη8, dF_zero]; show (if η7.nx + 1 = η7.nx + 1 then _ else _) = _; rw [if_pos rfl]
      have E8 : ExtB η.nx η η8 := by rw [← hη8]; exact ((Eη7.trans (.new Eη7.1)).trans (.put Eη7.1)).trans (.new (by show η.nx ≤ η7.nx + 1; have := Eη7.1; omega))
      have hd8 : η8.f η.nx = .live false (List.replicate 32 (.int .u8 0)) := by
        rw [← hη8]
        show (if η.nx = η7.nx + 1 then _ else if η.nx = η7.nx then _ else if η.nx = η7.nx then _ else _) = _
        rw [if_neg (by omega), if_neg (by omega), if_neg (by omega)]; exact hd7
      refine wpN_loop (OutI η V η.nx (η7.nx + 1)) 8 ⟨0, rfl, by simp [go_sem, p2], by simp [go_sem], by simp [go_sem], by simp [go_sem], hq8, hd8, E8⟩ ?_
      generalize hq : η7.nx + 1 = q
      have hqd : η.nx < q := by omega
      clear hq8 hd8 E8 hη8 hd7 Eη7 hc r7 E7 p0 p2 p3 p4 e1 e2 o2 o1 Ex Ex5 ox5 rx
      rintro m3 φ3 η9 ⟨i, hi, z2, z7, z50, z51, zq, zd, zE⟩
      have hdl := u8s_length (dF V (4 * i))
      rw [dF_length] at hdl
      by_cases hm3 : m3 = 0
      · obtain rfl : i = 8 := by omega
        have hz : (List.replicate 32 (AV.int .u8 0)).length = 32 := rfl
        simp -implicitDefEqProofs (disch := omega) only [go_sem, z2, z7, z50, z51, zq, zd, hz]
        refine ⟨?_, zE.trans (.put (Nat.le_refl _))⟩
        rw [dF_all]
        unfold sumF tailF len8
        rw [← hV, ← hL, hjn]
      · simp -implicitDefEqProofs (disch := omega) only [go_sem, z2, z7, z50, z51]
        refine wpN_loop (InI η V η.nx q i) 4 ⟨0, rfl, by simp [go_sem, z2], by simp [go_sem, z7], by simp [go_sem, z50], by simp [go_sem, z51], by simp [go_sem], by simp [go_sem, u32s_getD (l := V) (i := i) (by omega)], by simp [go_sem], zq, zd, zE⟩ ?_
        clear hdl z2 z7 z50 z51 zq zd zE
        rintro m4 φ4 η10 ⟨k, hk, z2, z7, z50, z51, z8, z9, z55, zq, zd, zE⟩
        have hdl := u8s_length (dF V (4 * i + k))
        rw [dF_length] at hdl
        by_cases hm4 : m4 = 0
        · obtain rfl : k = 4 := by omega
          simp -implicitDefEqProofs (disch := omega) only [go_sem, z2, z7, z50, z51, z8, z9, z55]
          exact ⟨m3 - 1, by omega, i + 1, by omega, by simp [go_sem, z2], by simp [go_sem, z7], by simp [go_sem, z50], by simp [go_sem], by rw [show 4 * (i + 1) = 4 * i + 4 by omega]; exact zq, zd, zE⟩
        · simp -implicitDefEqProofs (disch := omega) only [go_sem, z2, z7, z50, z51, z8, z9, z55, zq]
          refine ⟨m4 - 1, by omega, k + 1, by omega, by simp [go_sem, z2], by simp [go_sem, z7], by simp [go_sem, z50], by simp [go_sem, z51], by simp [go_sem, z8], by simp [go_sem, z9], by simp [go_sem], ?_, ?_, zE.trans (.put (by omega))⟩
          · show (if q = q then _ else _) = _
            rw [if_pos rfl]
            have e1 : (4 * i + k) / 4 = i := by omega
            have e2 : (4 * i + k) % 4 = k := by omega
            have := dF_set V (4 * i + k) (by omega)
            rw [e1, e2] at this
            unfold outB at this
            rw [u8s_set, this]; rfl
          · show (if η.nx = q then _ else _) = _; rw [if_neg (by omega)]; exact zd
    · have hiv : ival k = 56 - 8 * k := by unfold ival; rw [if_pos (by omega)]
      obtain ⟨x6, η6, e6, o6, E6, _⟩ := app_own (base := η.nx + 1) (y := .slice η5.nx 0 1 (.kn 1)) (m := [cntB n (56 - 8 * k)]) (own_ext ox5 (by omega) (.new (Nat.le_refl _))) rd_one (by simp; omega)
      unfold cntB at e6
      simp -implicitDefEqProofs (disch := omega) only [go_sem, p0, p2, p3, p4, hiv, hp5, hget9 h8, e6]
      have hi6 : (56 - 8 * k + 18446744073709551608) % 18446744073709551616 = ival (k + 1) := by unfold ival; split <;> omega
      refine ⟨m2 - 1, by omega, x6, k + 1, by omega, by simp [go_sem, p0], by simp [go_sem, p2], by simp [go_sem], by simp [go_sem, hi6], ?_, (Ex5.trans (.new (by omega))).trans E6⟩
      rw [List.range_succ, List.map_append, ← List.append_assoc]
      exact o6
  · have hnx : nx % 64 ≠ 56 := by omega
    obtain ⟨x3, η3, e3, o3, E3, _⟩ := app_own (base := η.nx + 1) (y := .slice η'.nx 0 1 (.kn 1)) (m := [0]) (own_ext ox (by omega) (.new (Nat.le_refl _))) rd_one (by simp; omega)
    simp -implicitDefEqProofs (disch := omega) only [go_sem, p0, p2, p3, e3]
    refine ⟨m - 1, by omega, x3, j + 1, by simp; omega, by simp [go_sem, p0], by simp [go_sem, p2], by simp [go_sem], ?_, (Ex.trans (.new (by omega))).trans E3⟩
    rw [List.replicate_succ', ← List.append_assoc]
    exact o3
end Go.Proofs.Ytfcakkiakodokaa
