/- What is proved: the document's own digest is the program's. Conditions: rounds, roots and primes are told. -/
import Derived.Test.YtfcakkiakodokaaSha9
set_option linter.unusedVariables false
set_option linter.unusedSimpArgs false
set_option linter.unusedSectionVars false
namespace Go.Proofs.Ytfcakkiakodokaa
open Go.Eng
set_option autoImplicit false
set_option maxRecDepth 100000
variable {nat : ∀ [Deep], Nats} {F : List Nat → List Nat → List Nat}
def prs : List Nat := [2, 3, 5, 7, 11, 13, 17, 19, 23, 29, 31, 37, 41, 43, 47, 53, 59, 61, 67, 71, 73, 79, 83, 89, 97, 101, 103, 107, 109, 113, 127, 131, 137, 139, 149, 151, 157, 163, 167, 173, 179, 181, 191, 193, 197, 199, 211, 223, 227, 229, 233, 239, 241, 251, 257, 263, 269, 271, 277, 281, 283, 293, 307, 311]
def ks : List Nat := [0x428a2f98, 0x71374491, 0xb5c0fbcf, 0xe9b5dba5, 0x3956c25b, 0x59f111f1, 0x923f82a4, 0xab1c5ed5, 0xd807aa98, 0x12835b01, 0x243185be, 0x550c7dc3, 0x72be5d74, 0x80deb1fe, 0x9bdc06a7, 0xc19bf174, 0xe49b69c1, 0xefbe4786, 0x0fc19dc6, 0x240ca1cc, 0x2de92c6f, 0x4a7484aa, 0x5cb0a9dc, 0x76f988da, 0x983e5152, 0xa831c66d, 0xb00327c8, 0xbf597fc7, 0xc6e00bf3, 0xd5a79147, 0x06ca6351, 0x14292967, 0x27b70a85, 0x2e1b2138, 0x4d2c6dfc, 0x53380d13, 0x650a7354, 0x766a0abb, 0x81c2c92e, 0x92722c85, 0xa2bfe8a1, 0xa81a664b, 0xc24b8b70, 0xc76c51a3, 0xd192e819, 0xd6990624, 0xf40e3585, 0x106aa070, 0x19a4c116, 0x1e376c08, 0x2748774c, 0x34b0bcb5, 0x391c0cb3, 0x4ed8aa4a, 0x5b9cca4f, 0x682e6ff3, 0x748f82ee, 0x78a5636f, 0x84c87814, 0x8cc70208, 0x90befffa, 0xa4506ceb, 0xbef9a3f7, 0xc67178f2]
def u64s (l : List Nat) : List AV := l.map (.int .u64)
structure Ctx2 (nat : ∀ [Deep], Nats) (F : List Nat → List Nat → List Nat) : Prop where
  base : Ctx nat F
  round : ∀ (η : HN) (h : List Nat) (b off : Nat) (cap : Cp) (l : List Nat), h.length = 8 → RdS η b off 64 cap l → CallN Try.prog nat 18 [.agg (u32s h), .agg (u32s ks), .slice b off 64 cap] η (.agg (u32s (F h l))) η
  rootK : ∀ (η : HN) (i : Nat), i < 64 → CallN Try.prog nat 17 [.int .u64 (prs.getD i 0), .int .i64 3] η (.int .u32 (ks.getD i 0)) η
  rootH : ∀ (η : HN) (i : Nat), i < 8 → CallN Try.prog nat 17 [.int .u64 (prs.getD i 0), .int .i64 2] η (.int .u32 (H0.getD i 0)) η
  primes : ∀ (η : HN), CallN Try.prog nat 16 [.int .i64 64] η (.slice η.nx 0 64 (.un 1)) (η.new (.live false (u64s prs)))
  none2 : ∀ [Deep] (f : FuncId), f = 11 ∨ f = 12 ∨ f = 9 → nat f = none
/-- the first i of l, noughts behind -/
def fillF (l : List Nat) (i : Nat) : List Nat := l.take i ++ List.replicate (l.length - i) 0
theorem fillF_len (l : List Nat) (i : Nat) : (fillF l i).length = l.length := by simp [fillF]; omega
theorem fillF_all (l : List Nat) : fillF l l.length = l := by simp [fillF]
theorem fillF_set (l : List Nat) (i : Nat) (h : i < l.length) : (fillF l i).set i (l.getD i 0) = fillF l (i + 1) := by
  apply List.ext_getElem
  · simp [fillF]; omega
  · intro j h1 h2
    rw [List.getElem_set]
    simp only [fillF, List.getElem_append, List.length_take, List.getElem_take, List.getElem_replicate]
    by_cases hj : i = j
    · subst hj
      rw [if_pos rfl, dif_pos (by omega), List.getD_eq_getElem?_getD, List.getElem?_eq_getElem h]; rfl
    · rw [if_neg hj]
      by_cases hq : j < i
      · rw [dif_pos (by omega), dif_pos (by omega)]
      · rw [dif_neg (by omega), dif_neg (by omega)]
theorem u64s_get {l : List Nat} {i : Nat} (h : i < l.length) : (u64s l)[i]? = some (.int .u64 (l.getD i 0)) := by
  unfold u64s
  simp [List.getD_eq_getElem?_getD, List.getElem?_eq_getElem, h]
theorem u64s_length (l : List Nat) : (u64s l).length = l.length := List.length_map _
theorem u32s_set (l : List Nat) (i x : Nat) : (u32s l).set i (.int .u32 x) = u32s (l.set i x) := List.map_set.symm
theorem prs_len : prs.length = 64 := rfl
theorem ks_len : ks.length = 64 := rfl
def KI (η : HN) (z : AV) (d : Nat) (m : Nat) (φ : FN) (η' : HN) : Prop :=
  ∃ i, i + m = 64 ∧ φ 0 = z ∧ φ 2 = .ptr d 0 ∧ φ 3 = .slice (d + 1) 0 64 (.un 1) ∧ φ 4 = .ptr (d + 2) 0 ∧ φ 5 = .ptr (d + 3) 0 ∧ φ 6 = .int .i64 i ∧ η'.f d = .live false (List.replicate 32 (.int .u8 0)) ∧ η'.f (d + 1) = .live false (u64s prs) ∧
    η'.f (d + 2) = .live false (List.replicate 8 (.int .u32 0)) ∧ η'.f (d + 3) = .live false (u32s (fillF ks i)) ∧ ExtB d η η' ∧ η'.nx = d + 4
def HI (η : HN) (z : AV) (d : Nat) (m : Nat) (φ : FN) (η' : HN) : Prop :=
  ∃ i, i + m = 8 ∧ φ 0 = z ∧ φ 2 = .ptr d 0 ∧ φ 3 = .slice (d + 1) 0 64 (.un 1) ∧ φ 4 = .ptr (d + 2) 0 ∧ φ 5 = .ptr (d + 3) 0 ∧ φ 7 = .int .i64 i ∧ η'.f d = .live false (List.replicate 32 (.int .u8 0)) ∧ η'.f (d + 1) = .live false (u64s prs) ∧
    η'.f (d + 2) = .live false (u32s (fillF H0 i)) ∧ η'.f (d + 3) = .live false (u32s ks) ∧ ExtB d η η' ∧ η'.nx = d + 4
theorem RdBk.len {η η' : HN} {bad : List Nat} {z : AV} {l : List Nat} {e y : Nat} (h : RdBk η bad z l) (hl : l.length ≤ 9223372036854775807) : lenN (.slice e 1 y) z η' = .ok (.int .i64 l.length) η' := by
  rcases h with ⟨rfl, rfl | ⟨b, off, cap, rfl⟩⟩ | ⟨b, off, n, c, rfl, ⟨rfl, _⟩, _⟩
  · rfl
  · rfl
  · rw [lenN_sl, lenI_at, if_pos hl]
theorem own_un {base : Nat} {η : HN} {x : AV} {l : List Nat} (h : OwnB base η x l) (hl : l ≠ []) : ∃ b, base ≤ b ∧ b < η.nx ∧ x = .slice b 0 l.length (.un 1) ∧ η.f b = .live false (u8s l) := by
  obtain ⟨b, h1, h2, ⟨_, h3, _⟩ | ⟨h3, h4⟩⟩ := h
  · exact absurd h3 hl
  · exact ⟨b, h1, h2, h3, h4⟩
def RPad (η1 : HN) (z : AV) (l : List Nat) (d : Nat) (m : Nat) (φ : FN) (η' : HN) : Prop :=
  ∃ x j, j + m = padN (l.length + 1) ∧ φ 0 = z ∧ φ 2 = .ptr d 0 ∧ φ 4 = .ptr (d + 2) 0 ∧ φ 5 = .ptr (d + 3) 0 ∧ φ 8 = x ∧ OwnB (d + 4) η' x (l ++ [128] ++ List.replicate j 0) ∧ ExtB (d + 4) η1 η'
def jval (j : Nat) : Nat := if j ≤ 7 then 7 - j else 18446744073709551615
def RCnt (η1 : HN) (z : AV) (L : List Nat) (n d : Nat) (m : Nat) (φ : FN) (η' : HN) : Prop :=
  ∃ x j, j + m = 8 ∧ φ 0 = z ∧ φ 2 = .ptr d 0 ∧ φ 4 = .ptr (d + 2) 0 ∧ φ 5 = .ptr (d + 3) 0 ∧ φ 8 = x ∧ φ 9 = .int .i64 (jval j) ∧ OwnB (d + 4) η' x (L ++ (List.range j).map fun j => cntB n (56 - 8 * j)) ∧ ExtB (d + 4) η1 η'
def RRnd (F : List Nat → List Nat → List Nat) (η : HN) (M : List Nat) (b d : Nat) (m : Nat) (φ : FN) (η' : HN) : Prop :=
  ∃ a c, a + m = M.length ∧ a % 64 = 0 ∧ c.length = 8 ∧ φ 2 = .ptr d 0 ∧ φ 4 = .ptr (d + 2) 0 ∧ φ 5 = .ptr (d + 3) 0 ∧ φ 8 = .slice b 0 M.length (.un 1) ∧ φ 10 = .int .i64 a ∧ η'.f d = .live false (List.replicate 32 (.int .u8 0)) ∧
    η'.f (d + 2) = .live false (u32s c) ∧ η'.f (d + 3) = .live false (u32s ks) ∧ η'.f b = .live false (u8s M) ∧ b < η'.nx ∧ blkF F c (M.drop a) = blkF F H0 M ∧ ExtB d η η'
def ROut (η : HN) (V : List Nat) (d q : Nat) (m : Nat) (φ : FN) (η' : HN) : Prop :=
  ∃ i, i + m = 32 ∧ φ 2 = .ptr d 0 ∧ φ 4 = .ptr (d + 2) 0 ∧ φ 11 = .ptr q 0 ∧ φ 12 = .int .i64 i ∧ η'.f q = .live false (u8s (dF V i)) ∧ η'.f d = .live false (List.replicate 32 (.int .u8 0)) ∧ η'.f (d + 2) = .live false (u32s V) ∧ ExtB d η η'
theorem restF_mod (l : List Nat) : (restF l).length % 64 = l.length % 64 := by
  induction hn : l.length using Nat.strongRecOn generalizing l with
  | _ n ih =>
    rw [restF]
    split
    · rw [ih (l.drop 64).length (by simp; omega) _ rfl]; simp; omega
    · rw [hn]
theorem sha_pad (l : List Nat) : outF (blkF F H0 (tailF l l.length)) = shaF F l := by
  unfold shaF sumF
  congr 1
  have h1 : tailF l l.length = l ++ ([128] ++ List.replicate (padN (l.length + 1)) 0 ++ len8 l.length) := by unfold tailF; simp only [List.append_assoc]
  have h2 : tailF (restF l) l.length = restF l ++ ([128] ++ List.replicate (padN (l.length + 1)) 0 ++ len8 l.length) := by
    have : padN ((restF l).length + 1) = padN (l.length + 1) := by
      have := restF_mod l
      unfold padN
      omega
    unfold tailF; rw [this]; simp only [List.append_assoc]
  rw [h1, h2]
  exact (app_F F l _).1 H0
set_option maxHeartbeats 2000000 in
theorem ref_spec (X : Ctx2 nat F) (η : HN) (z : AV) (l : List Nat) (hz : RdBk η [] z l) (hm : l.length ≤ 549755813888) : ∃ v η', CallN Try.prog nat 11 [z] η v η' ∧ v = .agg (u8s (shaF F l)) ∧ ExtB η.nx η η' := by
  refine call_of (PT := pl11) Try.func11 rfl (X.none2 11 (by simp)) ok11 rfl ?_
  simp -implicitDefEqProofs (disch := omega) only [go_sem]
  refine thenN_call ⟨_, _, X.primes _, ?_⟩
  simp -implicitDefEqProofs (disch := omega) only [go_sem]
  refine wpN_loop (KI η z η.nx) 64 ⟨0, rfl, rfl, rfl, rfl, rfl, rfl, rfl, ?_, ?_, ?_, ?_, ?_, ?_⟩ ?_
  · show (if η.nx = η.nx + 1 + 1 + 1 then _ else if η.nx = η.nx + 1 + 1 then _ else if η.nx = η.nx + 1 then _ else if η.nx = η.nx then _ else _) = _; rw [if_neg (by omega), if_neg (by omega), if_neg (by omega), if_pos rfl]
  · show (if η.nx + 1 = η.nx + 1 + 1 + 1 then _ else if η.nx + 1 = η.nx + 1 + 1 then _ else if η.nx + 1 = η.nx + 1 then _ else _) = _; rw [if_neg (by omega), if_neg (by omega), if_pos rfl]
  · show (if η.nx + 2 = η.nx + 1 + 1 + 1 then _ else if η.nx + 2 = η.nx + 1 + 1 then _ else _) = _; rw [if_neg (by omega), if_pos rfl]; rfl
  · show (if η.nx + 3 = η.nx + 1 + 1 + 1 then _ else _) = _; rw [if_pos rfl]; rfl
  · exact (((ExtB.new (Nat.le_refl _)).trans (.new (Nat.le_succ _))).trans (.new (by show η.nx ≤ η.nx + 1 + 1; omega))).trans (.new (by show η.nx ≤ η.nx + 1 + 1 + 1; omega))
  · rfl
  generalize hd : η.nx = d
  rintro m φ η1 ⟨i, hi, p0, p2, p3, p4, p5, p6, d0, d1, d2, d3, E, n1⟩
  by_cases hm0 : m = 0
  · obtain rfl : i = 64 := by omega
    simp -implicitDefEqProofs (disch := omega) only [go_sem, p0, p2, p3, p4, p5, p6]
    refine wpN_loop (HI η z d) 8 ⟨0, rfl, by simp (disch := omega) only [go_sem, p0], by simp (disch := omega) only [go_sem, p2], by simp (disch := omega) only [go_sem, p3], by simp (disch := omega) only [go_sem, p4], by simp (disch := omega) only [go_sem, p5], by simp (disch := omega) only [go_sem], d0, d1, d2, d3, E, n1⟩ ?_
    clear d0 d1 d2 d3 E n1 hi p0 p2 p3 p4 p5 p6
    rintro m φ η1 ⟨i, hi, p0, p2, p3, p4, p5, p7, d0, d1, d2, d3, E, n1⟩
    by_cases hm0 : m = 0
    · obtain rfl : i = 8 := by omega
      simp -implicitDefEqProofs (disch := omega) only [go_sem, p0, p2, p3, p4, p5, p7]
      have hzb : RdBk (η1.new (.live false [])) [] z l := (hz.frame E.1 fun b hb _ => E.2 b (by omega)).frame (Nat.le_succ _) fun b hb _ => by show (if b = η1.nx then _ else _) = _; rw [if_neg (by omega)]
      have hH8 : fillF H0 8 = H0 := fillF_all H0
      rw [hH8] at d2
      obtain ⟨x1, η2, e2, o2, E2, _⟩ := app_own (base := d + 4) (x := .slice η1.nx 0 0 (.kn 0)) (l := []) (η := η1.new (.live false [])) ⟨η1.nx, by omega, Nat.lt_succ_self _, .inl ⟨rfl, rfl, [], by show (if η1.nx = η1.nx then _ else _) = _; rw [if_pos rfl]⟩⟩ (hzb.rdB) (by simp; omega)
      rw [List.nil_append] at o2
      have E12 : ExtB (d + 4) η1 η2 := (ExtB.new (by omega)).trans E2
      obtain ⟨x2, η3, e3, o3, E3, _⟩ := app_own (base := d + 4) (y := .slice η2.nx 0 1 (.kn 1)) (m := [128]) (own_ext o2 (by have := E12.1; omega) (.new (Nat.le_refl _))) rd_one (by simp; omega)
      have E13 : ExtB (d + 4) η1 η3 := (E12.trans (.new (by have := E12.1; omega))).trans E3
      simp -implicitDefEqProofs (disch := omega) only [go_sem, e2, e3, p0, p2, p3, p4, p5, p7]
      refine wpN_loop (RPad η1 z l d) (padN (l.length + 1)) ⟨x2, 0, by simp, by simp (disch := omega) only [go_sem, p0], by simp (disch := omega) only [go_sem, p2], by simp (disch := omega) only [go_sem, p4], by simp (disch := omega) only [go_sem, p5], by simp (disch := omega) only [go_sem], by simpa using o3, E13⟩ ?_
      clear e2 e3 o2 o3 E2 E3 E12 E13 p0 p2 p3 p4 p5 p7 d1 hzb hi hm0
      rintro m φ η4 ⟨x, j, hj, p0, p2, p4, p5, p8, ox, Ex⟩
      obtain ⟨bx, nx, cx, rfl, sx1, sx2, rx⟩ := ox.rd
      have hlx := rx.1
      simp only [List.length_append, List.length_replicate, List.length_cons, List.length_nil, Nat.zero_add] at hj hlx
      have hpad : padN (l.length + 1) = (120 - (l.length + 1) % 64) % 64 := rfl
      by_cases hm1 : m = 0
      · have hnx : nx % 64 = 56 := by omega
        have hjn : j = padN (l.length + 1) := by omega
        simp -implicitDefEqProofs (disch := omega) only [go_sem, p0, p2, p4, p5, p8, hnx]
        have hLl : (l ++ [128] ++ List.replicate j 0).length = nx := by simp; omega
        generalize hL : l ++ [128] ++ List.replicate j 0 = L0 at ox rx hLl
        refine wpN_loop (RCnt η1 z L0 l.length d) 8 ⟨.slice bx 0 nx cx, 0, rfl, by simp (disch := omega) only [go_sem, p0], by simp (disch := omega) only [go_sem, p2], by simp (disch := omega) only [go_sem, p4], by simp (disch := omega) only [go_sem, p5], by simp (disch := omega) only [go_sem, p8], by rfl, by simpa using ox, Ex⟩ ?_
        clear rx sx1 sx2 ox p0 p2 p4 p5 p8 Ex
        rintro m2 φ2 η5 ⟨x, k, hk, p0, p2, p4, p5, p8, p9, ox5, Ex5⟩
        by_cases hm2 : m2 = 0
        · obtain rfl : k = 8 := by omega
          have hlt : ltN .i64 18446744073709551615 0 = true := rfl
          simp -implicitDefEqProofs (disch := omega) only [go_sem, p0, p2, p4, p5, p8, p9, jval, hlt]
          have hM : L0 ++ (List.range 8).map (fun j => cntB l.length (56 - 8 * j)) = tailF l l.length := by
            unfold tailF len8
            rw [← hL, hjn]
          have hMl : (tailF l l.length).length % 64 = 0 := by rw [← hM]; simp; omega
          rw [hM] at ox5
          have hMm : (tailF l l.length).length ≤ 549755813888 + 200 := by rw [← hM]; simp; omega
          obtain ⟨b5, hb5, hb6, rfl, hb7⟩ := own_un ox5 (by rw [← hM]; simp)
          generalize hMM : tailF l l.length = M at *
          have n5 := Ex5.1
          refine wpN_loop (RRnd F η M b5 d) M.length ⟨0, H0, by omega, by omega, rfl, by simp (disch := omega) only [go_sem, p2], by simp (disch := omega) only [go_sem, p4], by simp (disch := omega) only [go_sem, p5], by simp (disch := omega) only [go_sem, p8], by simp (disch := omega) only [go_sem], ?_, ?_, ?_, hb7, hb6, rfl, E.trans (Ex5.mono (by omega))⟩ ?_
          · rw [Ex5.2 d (by omega)]; exact d0
          · rw [Ex5.2 (d + 2) (by omega)]; exact d2
          · rw [Ex5.2 (d + 3) (by omega)]; exact d3
          clear p0 p2 p4 p5 p8 p9 d0 d2 d3 hb7 hb6
          rintro m3 φ3 η7 ⟨a, c, ha, ha64, c8, p2, p4, p5, p8, p10, q0, q2, q3, qb, qn, qB, qE⟩
          have hu8 := u32s_length c
          have huk := u32s_length ks
          by_cases hm3 : m3 = 0
          · obtain rfl : a = M.length := by omega
            simp -implicitDefEqProofs (disch := omega) only [go_sem, p2, p4, p5, p8, p10, q2, q3, qb]
            have hc : c = blkF F H0 M := by
              rw [List.drop_length] at qB
              rw [← qB, blkF, if_neg (by simp)]
            have q7 : d < η7.nx := by have := qE.1; omega
            have e7 := qE.1
            have hH : d + 2 < η7.nx := by omega
            have E8 : ExtB d η (η7.new (.live false (List.replicate 32 (.int .u8 0)))) := qE.trans (.new (by omega))
            generalize hη8 : η7.new (.live false (List.replicate 32 (.int .u8 0))) = η8 at E8
            have hw8 : η8.f η7.nx = .live false (u8s (dF c 0)) := by rw [← hη8, dF_zero]; show (if η7.nx = η7.nx then _ else _) = _; rw [if_pos rfl]
            have hd8 : η8.f d = .live false (List.replicate 32 (.int .u8 0)) := by rw [← hη8]; show (if d = η7.nx then _ else _) = _; rw [if_neg (by omega)]; exact q0
            have hh8 : η8.f (d + 2) = .live false (u32s c) := by rw [← hη8]; show (if d + 2 = η7.nx then _ else _) = _; rw [if_neg (by omega)]; exact q2
            refine wpN_loop (ROut η c d η7.nx) 32 ⟨0, rfl, by simp (disch := omega) only [go_sem, p2], by simp (disch := omega) only [go_sem, p4], by simp (disch := omega) only [go_sem], by simp (disch := omega) only [go_sem], hw8, hd8, hh8, E8⟩ ?_
            have hqd : d < η7.nx ∧ d + 2 < η7.nx := ⟨q7, hH⟩
            generalize η7.nx = q at *
            clear hw8 hd8 hh8 E8 hη8 q0 q2 q3 qb qn qB qE p2 p4 p5 p8 p10
            rintro m4 φ4 η9 ⟨i, hi, z2, z4, z11, z12, zq, zd, zh, zE⟩
            have hdl := u8s_length (dF c i)
            rw [dF_length] at hdl
            by_cases hm4 : m4 = 0
            · obtain rfl : i = 32 := by omega
              have hz2 : (List.replicate 32 (AV.int .u8 0)).length = 32 := rfl
              simp -implicitDefEqProofs (disch := omega) only [go_sem, z2, z4, z11, z12, zq, zd, hz2]
              refine ⟨?_, zE.trans (.put (Nat.le_refl _))⟩
              rw [dF_all, hc, ← hMM, sha_pad]
            · simp -implicitDefEqProofs (disch := omega) only [go_sem, z2, z4, z11, z12, zq, zd, zh]
              have hdq : d < q ∧ d + 2 < q := hqd
              refine ⟨m4 - 1, by omega, i + 1, by omega, by simp (disch := omega) only [go_sem, z2], by simp (disch := omega) only [go_sem, z4], by simp (disch := omega) only [go_sem, z11], by simp (disch := omega) only [go_sem], ?_, ?_, ?_, zE.trans (.put (by omega))⟩
              · show (if q = q then _ else _) = _
                rw [if_pos rfl]
                have := dF_set c i (by omega)
                unfold outB at this
                rw [u8s_set, this]
              · show (if d = q then _ else _) = _; rw [if_neg (by omega)]; exact zd
              · show (if d + 2 = q then _ else _) = _; rw [if_neg (by omega)]; exact zh
          · have hkl : (u32s ks).length = 64 := huk
            have hkt : (u32s ks).take 64 = u32s ks := List.take_of_length_le (by omega)
            have h64 : RdS η7 b5 a 64 (.un 1) ((M.drop a).take 64) := by
              refine ⟨by simp; omega, rfl, false, u8s M, qb, by rw [u8s_length]; omega, ?_⟩
              rw [u8s_drop, u8s_take]
            have hF8 := X.base.len c ((M.drop a).take 64)
            have huF := u32s_length (F c ((M.drop a).take 64))
            simp -implicitDefEqProofs (disch := omega) only [go_sem, p2, p4, p5, p8, p10, q2, q3, qb, hkt]
            have ha6 : a + 64 - a = 64 := by omega
            rw [ha6]
            refine dE_call ⟨_, _, X.round η7 c b5 a _ _ c8 h64, ?_⟩
            simp -implicitDefEqProofs (disch := omega) only [go_sem, p2, p4, p5, p8, p10, q2, q3, qb, hkt]
            refine ⟨m3 - 64, by omega, a + 64, F c ((M.drop a).take 64), by omega, by omega, hF8, by simp (disch := omega) only [go_sem, p2], by simp (disch := omega) only [go_sem, p4], by simp (disch := omega) only [go_sem, p5], by simp (disch := omega) only [go_sem, p8], by simp (disch := omega) only [go_sem], ?_, ?_, ?_, ?_, qn, ?_, qE.trans (.put (by omega))⟩
            · show (if d = d + 2 then _ else _) = _; rw [if_neg (by omega)]; exact q0
            · show (if d + 2 = d + 2 then _ else _) = _; rw [if_pos rfl]
            · show (if d + 3 = d + 2 then _ else _) = _; rw [if_neg (by omega)]; exact q3
            · show (if b5 = d + 2 then _ else _) = _; rw [if_neg (by omega)]; exact qb
            · have hq := qB
              rw [blkF, if_pos (by simp; omega), List.drop_drop] at hq
              exact hq
        · have hjv : jval k = 7 - k := by unfold jval; rw [if_pos (by omega)]
          obtain ⟨x6, η6, e6, o6, E6, _⟩ := app_own (base := d + 4) (y := .slice η5.nx 0 1 (.kn 1)) (m := [cntB l.length (8 * (7 - k))]) (own_ext ox5 (by have := Ex5.1; omega) (.new (Nat.le_refl _))) rd_one (by simp; omega)
          unfold cntB at e6
          have hzl : ∀ η', lenN (.slice 5 1 1) z η' = .ok (.int .i64 l.length) η' := fun η' => hz.len (η' := η') (e := 5) (y := 1) (by omega)
          simp -implicitDefEqProofs (disch := omega) only [go_sem, p0, p2, p4, p5, p8, p9, hjv, hzl, e6]
          have hi6 : (7 - k + 18446744073709551615) % 18446744073709551616 = jval (k + 1) := by unfold jval; split <;> omega
          refine ⟨m2 - 1, by omega, x6, k + 1, by omega, by simp (disch := omega) only [go_sem, p0], by simp (disch := omega) only [go_sem, p2], by simp (disch := omega) only [go_sem, p4], by simp (disch := omega) only [go_sem, p5], by simp (disch := omega) only [go_sem], by simp (disch := omega) only [go_sem, hi6], ?_, (Ex5.trans (.new (by have := Ex5.1; omega))).trans E6⟩
          rw [List.range_succ, List.map_append, ← List.append_assoc, List.map_singleton, show 56 - 8 * k = 8 * (7 - k) by omega]
          exact o6
      · have hnx : nx % 64 ≠ 56 := by omega
        obtain ⟨x3, η3, e3, o3, E3, _⟩ := app_own (base := d + 4) (y := .slice η4.nx 0 1 (.kn 1)) (m := [0]) (own_ext ox (by have := Ex.1; omega) (.new (Nat.le_refl _))) rd_one (by simp; omega)
        simp -implicitDefEqProofs (disch := omega) only [go_sem, p0, p2, p4, p5, p8, e3]
        refine ⟨m - 1, by omega, x3, j + 1, by omega, by simp (disch := omega) only [go_sem, p0], by simp (disch := omega) only [go_sem, p2], by simp (disch := omega) only [go_sem, p4], by simp (disch := omega) only [go_sem, p5], by simp (disch := omega) only [go_sem], ?_, (Ex.trans (.new (by have := Ex.1; omega))).trans E3⟩
        rw [List.replicate_succ', ← List.append_assoc]
        exact o3
    · have hp := u64s_get (l := prs) (i := i) (by rw [prs_len]; omega)
      have hpl := u64s_length prs
      have hkl : (u32s (fillF H0 i)).length = 8 := by rw [u32s_length, fillF_len]; rfl
      simp -implicitDefEqProofs (disch := omega) only [go_sem, p0, p2, p3, p4, p5, p7, d1, d2, hp]
      refine thenN_call ⟨_, _, X.rootH _ i (by omega), ?_⟩
      simp -implicitDefEqProofs (disch := omega) only [go_sem, p0, p2, p3, p4, p5, p7, d1, d2, d3, hp]
      refine ⟨m - 1, by omega, i + 1, by omega, by simp (disch := omega) only [go_sem, p0], by simp (disch := omega) only [go_sem, p2], by simp (disch := omega) only [go_sem, p3], by simp (disch := omega) only [go_sem, p4], by simp (disch := omega) only [go_sem, p5], by simp (disch := omega) only [go_sem], ?_, ?_, ?_, ?_, E.trans (.put (by omega)), n1⟩
      · show (if d = d + 2 then _ else _) = _; rw [if_neg (by omega)]; exact d0
      · show (if d + 1 = d + 2 then _ else _) = _; rw [if_neg (by omega)]; exact d1
      · show (if d + 2 = d + 2 then _ else _) = _; rw [if_pos rfl, u32s_set, fillF_set H0 i (by show i < 8; omega)]
      · show (if d + 3 = d + 2 then _ else _) = _; rw [if_neg (by omega)]; exact d3
  · have hp := u64s_get (l := prs) (i := i) (by rw [prs_len]; omega)
    have hpl := u64s_length prs
    have hkl : (u32s (fillF ks i)).length = 64 := by rw [u32s_length, fillF_len]; rfl
    simp -implicitDefEqProofs (disch := omega) only [go_sem, p0, p2, p3, p4, p5, p6, d1, d2, hp]
    refine thenN_call ⟨_, _, X.rootK _ i (by omega), ?_⟩
    simp -implicitDefEqProofs (disch := omega) only [go_sem, p0, p2, p3, p4, p5, p6, d1, d2, d3, hp]
    refine ⟨m - 1, by omega, i + 1, by omega, by simp (disch := omega) only [go_sem, p0], by simp (disch := omega) only [go_sem, p2], by simp (disch := omega) only [go_sem, p3], by simp (disch := omega) only [go_sem, p4], by simp (disch := omega) only [go_sem, p5], by simp (disch := omega) only [go_sem], ?_, ?_, ?_, ?_, E.trans (.put (by omega)), n1⟩
    · show (if d = d + 3 then _ else _) = _; rw [if_neg (by omega)]; exact d0
    · show (if d + 1 = d + 3 then _ else _) = _; rw [if_neg (by omega)]; exact d1
    · show (if d + 2 = d + 3 then _ else _) = _; rw [if_neg (by omega)]; exact d2
    · show (if d + 3 = d + 3 then _ else _) = _; rw [if_pos rfl, u32s_set, fillF_set ks i (by rw [ks_len]; omega)]
end Go.Proofs.Ytfcakkiakodokaa
