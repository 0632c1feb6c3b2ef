/- What is proved: nodes of which one calls another, read as they are written; their first fault of names. NamesAhead, walked. Conditions: as each theorem says. -/
import Derived.Test.YtpjmiopplfmcfaaPlain
import Derived.KernelRfl
import Derived.Test.YtpjmiopplfmcfaaTwo
set_option linter.unusedVariables false
set_option linter.unusedSimpArgs false
set_option linter.unusedSectionVars false
namespace Go.Plain
open Go.Eng
set_option autoImplicit false
set_option maxRecDepth 100000
def ndB (k : Nat) : By := [110, UInt8.ofNat (97 + k)]
def nodeB : By := [110, 111, 100, 101, 32]
def sigB : By := [40, 120, 58, 32, 105, 110, 116, 41, 32, 114, 101, 116, 117, 114, 110, 115, 32, 40, 121, 58, 32, 105, 110, 116, 41, 59, 32, 108, 101, 116, 32, 121, 32, 61, 32]
def outB : By := [59, 32, 116, 101, 108, 32]
def argB : By := [40, 120, 41]
def xB : By := [120]
theorem nd_all : ∀ k, k < 20 → ∀ c ∈ ndB k, nameB c = true := by decide +kernel
theorem nd_kept : ∀ k, k < 20 → keptS (sS (ndB k)) = false := by decide +kernel
theorem nd_inj : ∀ i, i < 20 → ∀ j, j < 20 → sS (ndB i) = sS (ndB j) → i = j := by decide +kernel
theorem nd_is {k : Nat} (h : k < 20) : IsNm (ndB k) := ⟨⟨_, _, rfl, rfl⟩, nd_all k h, nd_kept k h, Nat.le_of_ble_eq_true rfl⟩
theorem nd_len (k : Nat) : (ndB k).length = 2 := rfl
def saysB (fr to i : Nat) : By := if i = fr then ndB to ++ argB else xB
def aheadB (fr to i : Nat) : By := nodeB ++ (ndB i ++ (sigB ++ (saysB fr to i ++ outB)))
noncomputable def saysW (fr to c i : Nat) : List Wd := if i = fr then [nam (sS (ndB to)) c, sgn sLp (c + 2), nam sX (c + 3), sgn sRp (c + 4)] else [nam sX c]
def saysN (fr i : Nat) : Nat := if i = fr then 5 else 1
noncomputable def headW (c i : Nat) : List Wd := [kwd sNode c, nam (sS (ndB i)) (c + 5), sgn sLp (c + 7), nam sX (c + 8), sgn sColon (c + 9), kwd sInt (c + 11), sgn sRp (c + 14), kwd sReturns (c + 16), sgn sLp (c + 24), nam sY (c + 25), sgn sColon (c + 26), kwd sInt (c + 28), sgn sRp (c + 31), sgn sSemi (c + 32), kwd sLet (c + 34), nam sY (c + 38), sgn sEq (c + 40)]
noncomputable def aheadW (fr to c i : Nat) : List Wd := headW c i ++ (saysW fr to (c + 42) i ++ [sgn sSemi (c + 42 + saysN fr i), kwd sTel (c + 42 + saysN fr i + 2)])
theorem cut_nodeB {a : Nat} {r : By} {l : List Wd} : cutT a (nodeB ++ r) l = cutT (a + 5) (r) (l ++ [kwd sNode a]) := by
 show cutT a (110 :: 111 :: 100 :: 101 :: 32 :: (r)) l = _
 refine (cutN (x := [110, 111, 100, 101]) (a' := a + 4) (r := 32 :: (r)) wd_node rfl rfl).trans ?_
 refine (cutS (a' := a + 5) (r := (r)) rfl rfl).trans ?_
 rfl
theorem cut_sig {a : Nat} {r : By} {l : List Wd} : cutT a (sigB ++ r) l = cutT (a + 35) (r) (l ++ [sgn sLp a, nam sX (a + 1), sgn sColon (a + 2), kwd sInt (a + 4), sgn sRp (a + 7), kwd sReturns (a + 9), sgn sLp (a + 17), nam sY (a + 18), sgn sColon (a + 19), kwd sInt (a + 21), sgn sRp (a + 24), sgn sSemi (a + 25), kwd sLet (a + 27), nam sY (a + 31), sgn sEq (a + 33)]) := by
 show cutT a (40 :: 120 :: 58 :: 32 :: 105 :: 110 :: 116 :: 41 :: 32 :: 114 :: 101 :: 116 :: 117 :: 114 :: 110 :: 115 :: 32 :: 40 :: 121 :: 58 :: 32 :: 105 :: 110 :: 116 :: 41 :: 59 :: 32 :: 108 :: 101 :: 116 :: 32 :: 121 :: 32 :: 61 :: 32 :: (r)) l = _
 refine (cutG (c := 40) (t := sLp) (a' := a + 1) (r := 120 :: 58 :: 32 :: 105 :: 110 :: 116 :: 41 :: 32 :: 114 :: 101 :: 116 :: 117 :: 114 :: 110 :: 115 :: 32 :: 40 :: 121 :: 58 :: 32 :: 105 :: 110 :: 116 :: 41 :: 59 :: 32 :: 108 :: 101 :: 116 :: 32 :: 121 :: 32 :: 61 :: 32 :: (r)) (by decide) (by kernel_rfl) rfl).trans ?_
 refine (cutN (x := [120]) (a' := a + 2) (r := 58 :: 32 :: 105 :: 110 :: 116 :: 41 :: 32 :: 114 :: 101 :: 116 :: 117 :: 114 :: 110 :: 115 :: 32 :: 40 :: 121 :: 58 :: 32 :: 105 :: 110 :: 116 :: 41 :: 59 :: 32 :: 108 :: 101 :: 116 :: 32 :: 121 :: 32 :: 61 :: 32 :: (r)) wd_x rfl rfl).trans ?_
 refine (cutG (c := 58) (t := sColon) (a' := a + 3) (r := 32 :: 105 :: 110 :: 116 :: 41 :: 32 :: 114 :: 101 :: 116 :: 117 :: 114 :: 110 :: 115 :: 32 :: 40 :: 121 :: 58 :: 32 :: 105 :: 110 :: 116 :: 41 :: 59 :: 32 :: 108 :: 101 :: 116 :: 32 :: 121 :: 32 :: 61 :: 32 :: (r)) (by decide) (by kernel_rfl) rfl).trans ?_
 refine (cutS (a' := a + 4) (r := 105 :: 110 :: 116 :: 41 :: 32 :: 114 :: 101 :: 116 :: 117 :: 114 :: 110 :: 115 :: 32 :: 40 :: 121 :: 58 :: 32 :: 105 :: 110 :: 116 :: 41 :: 59 :: 32 :: 108 :: 101 :: 116 :: 32 :: 121 :: 32 :: 61 :: 32 :: (r)) rfl rfl).trans ?_
 refine (cutN (x := [105, 110, 116]) (a' := a + 7) (r := 41 :: 32 :: 114 :: 101 :: 116 :: 117 :: 114 :: 110 :: 115 :: 32 :: 40 :: 121 :: 58 :: 32 :: 105 :: 110 :: 116 :: 41 :: 59 :: 32 :: 108 :: 101 :: 116 :: 32 :: 121 :: 32 :: 61 :: 32 :: (r)) wd_int rfl rfl).trans ?_
 refine (cutG (c := 41) (t := sRp) (a' := a + 8) (r := 32 :: 114 :: 101 :: 116 :: 117 :: 114 :: 110 :: 115 :: 32 :: 40 :: 121 :: 58 :: 32 :: 105 :: 110 :: 116 :: 41 :: 59 :: 32 :: 108 :: 101 :: 116 :: 32 :: 121 :: 32 :: 61 :: 32 :: (r)) (by decide) (by kernel_rfl) rfl).trans ?_
 refine (cutS (a' := a + 9) (r := 114 :: 101 :: 116 :: 117 :: 114 :: 110 :: 115 :: 32 :: 40 :: 121 :: 58 :: 32 :: 105 :: 110 :: 116 :: 41 :: 59 :: 32 :: 108 :: 101 :: 116 :: 32 :: 121 :: 32 :: 61 :: 32 :: (r)) rfl rfl).trans ?_
 refine (cutN (x := [114, 101, 116, 117, 114, 110, 115]) (a' := a + 16) (r := 32 :: 40 :: 121 :: 58 :: 32 :: 105 :: 110 :: 116 :: 41 :: 59 :: 32 :: 108 :: 101 :: 116 :: 32 :: 121 :: 32 :: 61 :: 32 :: (r)) wd_returns rfl rfl).trans ?_
 refine (cutS (a' := a + 17) (r := 40 :: 121 :: 58 :: 32 :: 105 :: 110 :: 116 :: 41 :: 59 :: 32 :: 108 :: 101 :: 116 :: 32 :: 121 :: 32 :: 61 :: 32 :: (r)) rfl rfl).trans ?_
 refine (cutG (c := 40) (t := sLp) (a' := a + 18) (r := 121 :: 58 :: 32 :: 105 :: 110 :: 116 :: 41 :: 59 :: 32 :: 108 :: 101 :: 116 :: 32 :: 121 :: 32 :: 61 :: 32 :: (r)) (by decide) (by kernel_rfl) rfl).trans ?_
 refine (cutN (x := [121]) (a' := a + 19) (r := 58 :: 32 :: 105 :: 110 :: 116 :: 41 :: 59 :: 32 :: 108 :: 101 :: 116 :: 32 :: 121 :: 32 :: 61 :: 32 :: (r)) wd_y rfl rfl).trans ?_
 refine (cutG (c := 58) (t := sColon) (a' := a + 20) (r := 32 :: 105 :: 110 :: 116 :: 41 :: 59 :: 32 :: 108 :: 101 :: 116 :: 32 :: 121 :: 32 :: 61 :: 32 :: (r)) (by decide) (by kernel_rfl) rfl).trans ?_
 refine (cutS (a' := a + 21) (r := 105 :: 110 :: 116 :: 41 :: 59 :: 32 :: 108 :: 101 :: 116 :: 32 :: 121 :: 32 :: 61 :: 32 :: (r)) rfl rfl).trans ?_
 refine (cutN (x := [105, 110, 116]) (a' := a + 24) (r := 41 :: 59 :: 32 :: 108 :: 101 :: 116 :: 32 :: 121 :: 32 :: 61 :: 32 :: (r)) wd_int rfl rfl).trans ?_
 refine (cutG (c := 41) (t := sRp) (a' := a + 25) (r := 59 :: 32 :: 108 :: 101 :: 116 :: 32 :: 121 :: 32 :: 61 :: 32 :: (r)) (by decide) (by kernel_rfl) rfl).trans ?_
 refine (cutG (c := 59) (t := sSemi) (a' := a + 26) (r := 32 :: 108 :: 101 :: 116 :: 32 :: 121 :: 32 :: 61 :: 32 :: (r)) (by decide) (by kernel_rfl) rfl).trans ?_
 refine (cutS (a' := a + 27) (r := 108 :: 101 :: 116 :: 32 :: 121 :: 32 :: 61 :: 32 :: (r)) rfl rfl).trans ?_
 refine (cutN (x := [108, 101, 116]) (a' := a + 30) (r := 32 :: 121 :: 32 :: 61 :: 32 :: (r)) wd_let rfl rfl).trans ?_
 refine (cutS (a' := a + 31) (r := 121 :: 32 :: 61 :: 32 :: (r)) rfl rfl).trans ?_
 refine (cutN (x := [121]) (a' := a + 32) (r := 32 :: 61 :: 32 :: (r)) wd_y rfl rfl).trans ?_
 refine (cutS (a' := a + 33) (r := 61 :: 32 :: (r)) rfl rfl).trans ?_
 refine (cutG (c := 61) (t := sEq) (a' := a + 34) (r := 32 :: (r)) (by decide) (by kernel_rfl) rfl).trans ?_
 refine (cutS (a' := a + 35) (r := (r)) rfl rfl).trans ?_
 simp only [List.append_assoc, List.cons_append, List.nil_append]
 rfl
theorem cut_out {a : Nat} {r : By} {l : List Wd} : cutT a (outB ++ r) l = cutT (a + 6) (r) (l ++ [sgn sSemi a, kwd sTel (a + 2)]) := by
 show cutT a (59 :: 32 :: 116 :: 101 :: 108 :: 32 :: (r)) l = _
 refine (cutG (c := 59) (t := sSemi) (a' := a + 1) (r := 32 :: 116 :: 101 :: 108 :: 32 :: (r)) (by decide) (by kernel_rfl) rfl).trans ?_
 refine (cutS (a' := a + 2) (r := 116 :: 101 :: 108 :: 32 :: (r)) rfl rfl).trans ?_
 refine (cutN (x := [116, 101, 108]) (a' := a + 5) (r := 32 :: (r)) wd_tel rfl rfl).trans ?_
 refine (cutS (a' := a + 6) (r := (r)) rfl rfl).trans ?_
 simp only [List.append_assoc, List.cons_append, List.nil_append]
 rfl
theorem cut_arg {a : Nat} {r : By} {l : List Wd} : cutT a (argB ++ r) l = cutT (a + 3) (r) (l ++ [sgn sLp a, nam sX (a + 1), sgn sRp (a + 2)]) := by
 show cutT a (40 :: 120 :: 41 :: (r)) l = _
 refine (cutG (c := 40) (t := sLp) (a' := a + 1) (r := 120 :: 41 :: (r)) (by decide) (by kernel_rfl) rfl).trans ?_
 refine (cutN (x := [120]) (a' := a + 2) (r := 41 :: (r)) wd_x rfl rfl).trans ?_
 refine (cutG (c := 41) (t := sRp) (a' := a + 3) (r := (r)) (by decide) (by kernel_rfl) rfl).trans ?_
 simp only [List.append_assoc, List.cons_append, List.nil_append]
 rfl
theorem cut_x {a : Nat} {r : By} {l : List Wd} : cutT a (xB ++ outB ++ r) l = cutT (a + 1) (outB ++ r) (l ++ [nam sX a]) := by
 show cutT a (120 :: (outB ++ r)) l = _
 refine (cutN (x := [120]) (a' := a + 1) (r := (outB ++ r)) wd_x rfl rfl).trans ?_
 rfl
theorem span_sig {r : By} : spanL nameB (sigB ++ r) = 0 := rfl
theorem span_arg {r : By} : spanL nameB (argB ++ r) = 0 := rfl
section
variable {fr to n : Nat}
theorem cut_says {i : Nat} (ht : to < 20) (a : Nat) (r : By) (l : List Wd) : cutT a (saysB fr to i ++ (outB ++ r)) l = cutT (a + saysN fr i) (outB ++ r) (l ++ saysW fr to a i) := by
 unfold saysB saysN saysW
 by_cases h : i = fr
 ·rw [if_pos h, if_pos h, if_pos h, List.append_assoc, cutT_name (nd_is ht) span_arg, nd_len]
  rw [cut_arg]
  simp only [List.append_assoc, List.cons_append, List.nil_append, Nat.add_assoc]
 ·rw [if_neg h, if_neg h, if_neg h]
  exact cut_x
theorem cut_ahead {i : Nat} (ht : to < 20) (hi : i < 20) (a : Nat) (r : By) (l : List Wd) : cutT a (aheadB fr to i ++ r) l = cutT (a + (48 + saysN fr i)) r (l ++ aheadW fr to a i) := by
 unfold aheadB
 rw [List.append_assoc, cut_nodeB, List.append_assoc, List.append_assoc, List.append_assoc, cutT_name (nd_is hi) span_sig, nd_len, cut_sig, show a + 5 + 2 + 35 = a + 42 from rfl, cut_says ht, cut_out]
 rw [show a + 42 + saysN fr i + 6 = a + (48 + saysN fr i) by omega]
 unfold aheadW headW
 simp only [List.append_assoc, List.cons_append, List.nil_append, Nat.add_assoc, Nat.reduceAdd]
noncomputable def rowW (fr to : Nat) : Nat → Nat → Nat → List Wd
 | _, _, 0 => []
 | c, i, m + 1 => aheadW fr to c i ++ rowW fr to (c + (48 + saysN fr i)) (i + 1) m
theorem cut_rowA (ht : to < 20) : ∀ (m a i : Nat) (r : By) (l : List Wd), i + m ≤ 20 → ∃ c, cutT a (repB (aheadB fr to) i m ++ r) l = cutT c r (l ++ rowW fr to a i m)
 | 0, a, i, r, l, _ => ⟨a, by rw [show rowW fr to a i 0 = [] from rfl, List.append_nil]; rfl⟩
 | m + 1, a, i, r, l, h => by
  obtain ⟨c, e⟩ := cut_rowA ht m (a + (48 + saysN fr i)) (i + 1) r (l ++ aheadW fr to a i) (by omega)
  refine ⟨c, ?_⟩
  show cutT a ((aheadB fr to i ++ repB (aheadB fr to) (i + 1) m) ++ r) l = _
  rw [List.append_assoc, cut_ahead ht (by omega), e, List.append_assoc]; rfl
theorem row_len (ht : to < 20) : ∀ (m i : Nat), (repB (aheadB fr to) i m).length ≤ m * 60
 | 0, i => by simp [repB]
 | m + 1, i => by
  show (aheadB fr to i ++ repB (aheadB fr to) (i + 1) m).length ≤ _
  have := row_len ht m (i + 1)
  have h2 : (aheadB fr to i).length ≤ 60 := by
   unfold aheadB saysB
   split
   ·show (nodeB ++ (ndB i ++ (sigB ++ ((ndB to ++ argB) ++ outB)))).length ≤ 60
    simp only [List.length_append, nd_len]; decide
   ·simp only [List.length_append, nd_len]; decide
  rw [List.length_append, Nat.add_mul]; omega
noncomputable def saysE (fr to c i : Nat) : Tr := if i = fr then .mk sCall (sS (ndB to)) 0 c [.mk sVar sX 0 (c + 3) []] else .mk sVar sX 0 c []
noncomputable def aheadN (fr to c i : Nat) : Nd := ⟨sS (ndB i), [⟨sX, 2, (0, 0), false, c + 8⟩], [⟨sY, 2, (0, 0), false, c + 25⟩], [], [⟨sY, saysE fr to (c + 42) i, c + 38⟩], c⟩
def aheadK (fr i : Nat) : Nat := if i = fr then 23 else 20
variable {L : List Wd}
theorem says_read {k c i a1 : Nat} {r : List Wd} (h : L.drop k = saysW fr to c i ++ (sgn sSemi a1 :: r)) (q n : Nat) (hq : q = 0) : ∃ q', exprF L (lvl L 30) (pl k q n) = (saysE fr to c i, pl (k + (aheadK fr i - 19)) q' n) ∧ L.getD (k + (aheadK fr i - 19)) W0 = sgn sSemi a1 := by
 subst hq
 unfold saysW at h
 unfold saysE aheadK
 by_cases e : i = fr
 ·rw [if_pos e] at h
  rw [if_pos e, if_pos e]
  have h : L.drop k = nam (sS (ndB to)) c :: sgn sLp (c + 2) :: nam sX (c + 3) :: sgn sRp (c + 4) :: sgn sSemi a1 :: r := h
  exact ⟨2, arrow_atom (prim_call (m := 28) (gw0 h) (gw h 1) (gw h 2) (gw h 3) (len_pos h) (by decide)) (noun_nam (gw0 h)) (calm_sgn (gw h 4) (by decide)), gw h 4⟩
 ·rw [if_neg e] at h
  rw [if_neg e, if_neg e]
  have h : L.drop k = nam sX c :: sgn sSemi a1 :: r := h
  exact ⟨1, arrow_atom (prim_var (gw0 h) (by decide) (by rw [is_sgn (gw h 1)]; rfl)) (noun_nam (gw0 h)) (calm_sgn (gw h 1) (by decide)), gw h 1⟩
theorem ahead_read {k c i q n : Nat} {r : List Wd} (h : L.drop k = aheadW fr to c i ++ r) (hr : ∀ w, r.head? = some w → (w.k = 2 ∨ w.k = 0) ∧ w.t ≠ sSemi) (hr0 : r ≠ []) :
  ∃ q', nodeF L (pl k q n) = (aheadN fr to c i, pl (k + aheadK fr i) q' 2) ∧ L.drop (k + aheadK fr i) = r := by
 have h0 : L.drop k = headW c i ++ (saysW fr to (c + 42) i ++ (sgn sSemi (c + 42 + saysN fr i) :: kwd sTel (c + 42 + saysN fr i + 2) :: r)) := by
  rw [h]; unfold aheadW; rw [List.append_assoc, List.append_assoc]; rfl
 have g : ∀ i, L.getD (k + i) W0 = _ := gw h0
 have h1 : L.drop (k + 17) = saysW fr to (c + 42) i ++ (sgn sSemi (c + 42 + saysN fr i) :: kwd sTel (c + 42 + saysN fr i + 2) :: r) := dw (ws := headW c i) h0
 obtain ⟨q', e1, g1⟩ := says_read h1 0 2 rfl
 have ek : aheadK fr i = aheadK fr i - 19 + 19 := by unfold aheadK; split <;> rfl
 generalize hz : aheadK fr i - 19 = z at *
 have hlen : (saysW fr to (c + 42) i).length = z := by
  rw [← hz]; unfold saysW aheadK; split <;> rfl
 have h2 : L.drop (k + 17 + z) = sgn sSemi (c + 42 + saysN fr i) :: kwd sTel (c + 42 + saysN fr i + 2) :: r := by
  have := dw h1
  rw [hlen] at this
  exact this
 have d1 : declsF L (pl (k + 3) q 0) = ([⟨sX, 2, (0, 0), false, c + 8⟩], pl (k + 6) q 1) := by
  refine decls_of (g 3) ?_
  rw [decl_one (L := L) false (g 3) (g 4) (g 5) (len_pos h0) (by decide), decls_end (g 6)]; rfl
 have d2 : declsF L (pl (k + 9) q 1) = ([⟨sY, 2, (0, 0), false, c + 25⟩], pl (k + 12) q 2) := by
  refine decls_of (g 9) ?_
  rw [decl_one (L := L) false (g 9) (g 10) (g 11) (len_pos h0) (by decide), decls_end (g 12)]; rfl
 obtain ⟨m, hm⟩ := len_pos h0
 have e2 := eq_at (L := L) (k := k + 15) (q := q) (n := 2) (g 15) (g 16) e1 g1
 have e3 : eqsL L L.length [] (pl (k + 15) q 2) = ([⟨sY, saysE fr to (c + 42) i, c + 38⟩], pl (k + 17 + z + 1) q' 2) := by
  rw [hm, eqs_s (g 15) e2, eqs_end (gw h2 1)]; rfl
 refine ⟨q', ?_, ?_⟩
 ·rw [show k + aheadK fr i = k + 17 + z + 2 by omega]
  refine node_at (L := L) (k := k) (k1 := k + 6) (k2 := k + 12) (k3 := k + 14) (k4 := k + 17 + z + 1) (n1 := 1) (n2 := 2) (n3 := 2) (g 0) (g 1) (g 2) d1 (g 6) (g 7) (g 8) d2 (g 12) (g 13) (vars_none (g 14)) (g 14) e3 (gw h2 1) ?_
  unfold takeP
  obtain ⟨w, r', rfl⟩ := List.exists_cons_of_ne_nil hr0
  have gk := gw h2 2
  have : isP L sSemi (pl (k + 17 + z + 1 + 1) q' 2) = false := by
   rw [is_pl (w := w) gk]
   exact decide_eq_false fun x => (hr w rfl).2 x.2
  rw [this]; rfl
 ·have := dw (ws := [_, _]) h2
  rw [show k + aheadK fr i = k + 17 + z + 2 by omega]
  exact this
noncomputable def rowN (fr to : Nat) : Nat → Nat → Nat → List Nd
 | _, _, 0 => []
 | c, i, m + 1 => aheadN fr to c i :: rowN fr to (c + (48 + saysN fr i)) (i + 1) m
theorem end_ne : ((0, 0) : S) ≠ sSemi := by decide
theorem node_ne : sNode ≠ sSemi := by decide
theorem row_read : ∀ (m k c i q n fu a1 : Nat) (l : List Nd), L.drop k = rowW fr to c i m ++ [endW a1] → l.length + m ≤ 32 → l.length + m ≠ 0 → m ≤ fu →
  ∃ p, nodesL L fu l (pl k q n) = (l ++ rowN fr to c i m, p) ∧ p.e = 0
 | 0, k, c, i, q, n, fu, a1, l, h, h1, h2, h3 => ⟨_, by rw [nodes_end (by omega) (by rw [gw0 (L := L) (w := endW a1) (ws := []) h]; rfl), show rowN fr to c i 0 = [] from rfl, List.append_nil], rfl⟩
 | m + 1, k, c, i, q, n, 0, a1, l, h, h1, h2, h3 => absurd h3 (by omega)
 | m + 1, k, c, i, q, n, fu + 1, a1, l, h, h1, h2, h3 => by
  have h : L.drop k = (aheadW fr to c i ++ rowW fr to (c + (48 + saysN fr i)) (i + 1) m) ++ [endW a1] := h
  rw [List.append_assoc] at h
  obtain ⟨q', e1, h'⟩ := ahead_read (q := q) (n := n) h (by
   intro w hw
   obtain _ | m := m
   ·have : w = endW a1 := (Option.some.inj hw).symm
    rw [this]; exact ⟨.inr rfl, end_ne⟩
   ·have : w = kwd sNode (c + (48 + saysN fr i)) := (Option.some.inj hw).symm
    rw [this]; exact ⟨.inl rfl, node_ne⟩) (by simp)
  obtain ⟨p, e2, hp⟩ := row_read m (k + aheadK fr i) _ (i + 1) q' 2 fu a1 (l ++ [aheadN fr to c i]) h' (by simp; omega) (by simp) (by omega)
  have h0 : L.getD k W0 = kwd sNode c := gw0 (ws := (headW c i).tail ++ _) (by rw [h]; unfold aheadW; rw [List.append_assoc]; rfl)
  refine ⟨p, ?_, hp⟩
  rw [nodes_s (by omega) (.inr (by rw [h0]; exact Nat.succ_ne_zero 1)) e1, e2, List.append_assoc]; rfl
theorem ahead_tree (hn : 0 < n) (hm : n ≤ 20) (ht : to < 20) : ∃ c, parseF (repB (aheadB fr to) 0 n) = (rowN fr to c 0 n, 0, 0) := by
 have hl := row_len (fr := fr) ht n 0
 obtain ⟨c, e⟩ := cut_rowA (fr := fr) ht n 0 0 [] [] (by omega)
 rw [List.append_nil, cutT_end, List.nil_append] at e
 refine ⟨0, ?_⟩
 unfold parseF
 rw [cutF_T (by omega), e, if_pos rfl]
 unfold treeF
 obtain ⟨p, e2, hp⟩ := row_read (L := rowW fr to 0 0 n ++ [endW c]) n 0 0 0 0 0 34 c [] rfl (by simp; omega) (by simp; omega) (by omega)
 rw [e2]
 dsimp only
 rw [if_pos hp]; rfl
theorem idx_none {h : List Nd} {s : S} (hs : ∀ d ∈ h, d.nm ≠ s) : nodeIx h s = none := by
 unfold nodeIx
 rw [List.findIdx?_eq_none_iff]
 exact fun d hd => decide_eq_false (hs d hd)
theorem ahead_node {h : List Nd} {c i : Nat} (hi : i < 20) (ht : to < 20) (hh : ∀ d ∈ h, ∃ j c', j < i ∧ d = aheadN fr to c' j) (hall : ∀ j, j < i → ∃ c', aheadN fr to c' j ∈ h) :
  (nodeC h (aheadN fr to c i) = none) = (i = fr → to < i) := by
 have h1 : nodeIx h (sS (ndB i)) = none := idx_none fun d hd e => by
  obtain ⟨j, c', hj, rfl⟩ := hh d hd
  have := nd_inj j (by omega) i hi e
  omega
 have e0 : nodeC h (aheadN fr to c i) = match exprC h (fun s => decide (s = sY) || (decide (s = sX) || false)) (saysE fr to (c + 42) i) with | some a => some a | none => none := by
  unfold nodeC
  rw [show (aheadN fr to c i).nm = sS (ndB i) from rfl, h1, if_neg (by decide), if_neg (show ¬ (aheadN fr to c i).outs.length = 0 from Nat.succ_ne_zero 0)]
  show (match declC (aheadN fr to c i) with | (some a, _) => some a | (none, P) => _) = _
  have : declC (aheadN fr to c i) = (none, fun s => decide (s = sY) || (decide (s = sX) || false)) := rfl
  rw [this]
  show eqsC h _ _ [⟨sY, saysE fr to (c + 42) i, c + 38⟩] (fun _ => false) = _
  unfold eqsC
  rw [if_neg Bool.false_ne_true, if_pos (by rfl)]
  cases exprC h (fun s => decide (s = sY) || (decide (s = sX) || false)) (saysE fr to (c + 42) i) with
  | some a => rfl
  | none => rfl
 rw [e0]
 unfold saysE
 by_cases e : i = fr
 ·rw [if_pos e]
  have hx : exprC h (fun s => decide (s = sY) || (decide (s = sX) || false)) (.mk sCall (sS (ndB to)) 0 (c + 42) [.mk sVar sX 0 (c + 42 + 3) []]) = if callOk h (sS (ndB to)) 1 then none else some (c + 42) := by
   unfold exprC
   have : exprOk h (fun s => decide (s = sY) || (decide (s = sX) || false)) sCall (sS (ndB to)) [Tr.mk sVar sX 0 (c + 42 + 3) []].length = callOk h (sS (ndB to)) 1 := by
    unfold exprOk
    rw [if_neg (by decide), if_pos rfl]; rfl
   rw [this]
   cases callOk h (sS (ndB to)) 1 with
   | false => rfl
   | true => rfl
  rw [hx]
  by_cases hlt : to < i
  ·obtain ⟨c', hc⟩ := hall to hlt
   have hf : ∃ d, h.find? (fun d => decide (d.nm = sS (ndB to))) = some d ∧ ∃ j c', d = aheadN fr to c' j := by
    cases hd : h.find? (fun d => decide (d.nm = sS (ndB to))) with
    | none => exact absurd (List.find?_eq_none.1 hd _ hc) (by simp [aheadN])
    | some d =>
     obtain ⟨j, c2, _, hj⟩ := hh d (List.mem_of_find?_eq_some hd)
     exact ⟨d, rfl, j, c2, hj⟩
   obtain ⟨d, hd, j, c2, rfl⟩ := hf
   have : callOk h (sS (ndB to)) 1 = true := by
    unfold callOk
    rw [hd]; rfl
   rw [this]
   exact propext ⟨fun _ _ => hlt, fun _ => rfl⟩
  ·have : callOk h (sS (ndB to)) 1 = false := by
    unfold callOk
    have hd : h.find? (fun d => decide (d.nm = sS (ndB to))) = none := by
     rw [List.find?_eq_none]
     intro d hd g
     obtain ⟨j, c', hj, rfl⟩ := hh d hd
     have := nd_inj j (by omega) to ht (of_decide_eq_true g)
     omega
    rw [hd]
   rw [this]
   exact propext ⟨(fun g => by cases g), fun g => absurd (g e) hlt⟩
 ·rw [if_neg e]
  exact propext ⟨fun _ g => absurd g e, fun _ => rfl⟩
theorem ahead_names (ht : to < 20) : ∀ (m c i : Nat) (h : List Nd), i + m ≤ 20 → (∀ d ∈ h, ∃ j c', j < i ∧ d = aheadN fr to c' j) → (∀ j, j < i → ∃ c', aheadN fr to c' j ∈ h) →
  (namesL h (rowN fr to c i m) = none) = (∀ j, i ≤ j → j < i + m → j = fr → to < j)
 | 0, c, i, h, _, _, _ => propext ⟨fun _ j h1 h2 => absurd h2 (by omega), fun _ => rfl⟩
 | m + 1, c, i, h, hm, h1, h2 => by
  have e := ahead_node (c := c) (by omega) ht h1 h2
  have ih := ahead_names ht m (c + (48 + saysN fr i)) (i + 1) (h ++ [aheadN fr to c i]) (by omega)
   (fun d hd => by
    rcases List.mem_append.1 hd with hd | hd
    ·obtain ⟨j, c', hj, e⟩ := h1 d hd
     exact ⟨j, c', by omega, e⟩
    ·exact ⟨i, c, by omega, List.mem_singleton.1 hd⟩)
   (fun j hj => by
    by_cases hji : j = i
    ·subst hji; exact ⟨c, by simp⟩
    ·obtain ⟨c', hc⟩ := h2 j (by omega)
     exact ⟨c', List.mem_append_left _ hc⟩)
  show (namesL h (aheadN fr to c i :: rowN fr to (c + (48 + saysN fr i)) (i + 1) m) = none) = _
  unfold namesL
  cases hn : nodeC h (aheadN fr to c i) with
  | some a =>
   rw [hn] at e
   refine propext ⟨(fun g => by cases g), fun g => ?_⟩
   have : (some a = none) := e ▸ (fun q => g i (Nat.le_refl _) (by omega) q)
   cases this
  | none =>
   rw [hn] at e
   dsimp only
   rw [ih]
   have e : i = fr → to < i := e ▸ rfl
   refine propext ⟨fun g j j1 j2 q => ?_, fun g j j1 j2 q => g j (by omega) (by omega) q⟩
   by_cases hji : j = i
   ·subst hji; exact e q
   ·exact g j (by omega) (by omega) q
theorem ahead_fault {c : Nat} (hf : fr < n) (hn : n ≤ 20) (ht : to < 20) : (namesF (rowN fr to c 0 n) = none) = (to < fr) := by
 unfold namesF
 rw [ahead_names ht n c 0 [] (by omega) (fun d hd => by cases hd) (fun j hj => by omega)]
 exact propext ⟨fun g => g fr (Nat.zero_le _) (by omega) rfl, fun g j _ _ e => e ▸ g⟩
end
end Go.Plain
namespace Go.Proofs.Ytpjmiopplfmcfaa
open Go.Eng Go.Plain
set_option autoImplicit false
set_option maxRecDepth 100000
variable {nat : ∀ [Deep], Nats}
attribute [local irreducible] wpN
@[go_sem] theorem opd_a_n {φ : FN} : opd φ (.const (.string ⟨#[110]⟩)) = .str 1 110 := rfl
@[go_sem] theorem opd_a_arg {φ : FN} : opd φ (.const (.string ⟨#[40, 120, 41]⟩)) = .str 3 2717736 := rfl
@[go_sem] theorem opd_a_nn {φ : FN} : opd φ (.const (.string ⟨#[110, 111, 100, 101, 32, 110]⟩)) = .str 6 121085419089774 := rfl
@[go_sem] theorem opd_a_sig {φ : FN} : opd φ (.const (.string ⟨#[40, 120, 58, 32, 105, 110, 116, 41, 32, 114, 101, 116, 117, 114, 110, 115, 32, 40, 121, 58, 32, 105, 110, 116, 41, 59, 32, 108, 101, 116, 32, 121, 32, 61, 32]⟩)) = .str 35 244645580927798779256889762682621613746339029327401417727033170844658033462309713960 := rfl
@[go_sem] theorem opd_a_out {φ : FN} : opd φ (.const (.string ⟨#[59, 32, 116, 101, 108, 32]⟩)) = .str 6 35649930666043 := rfl
@[go_sem] theorem opd_a_x {φ : FN} : opd φ (.const (.string ⟨#[120]⟩)) = .str 1 120 := rfl
theorem cd_arg : codesL argB = 2717736 := by kernel_rfl
theorem cd_sig : codesL sigB = 244645580927798779256889762682621613746339029327401417727033170844658033462309713960 := by kernel_rfl
theorem cd_out : codesL outB = 35649930666043 := by kernel_rfl
theorem cd_nn : codesL (nodeB ++ [110]) = 121085419089774 := by kernel_rfl
theorem cd_let {k : Nat} (h : k < 20) : codesL [UInt8.ofNat (97 + k)] = 97 + k := by
 show (UInt8.ofNat (97 + k)).toNat + 256 * 0 = _
 rw [u8_of (by omega)]; omega
theorem says_call {k : Nat} (h : k < 20) : AV.str (1 + 1 + 3) (strCat (1 + 1) (strCat 1 110 (97 + k)) 2717736) = .str (ndB k ++ argB).length (codesL (ndB k ++ argB)) := by
 rw [catS (n := 1) (v := 110) [110] [UInt8.ofNat (97 + k)] rfl rfl (cd_let h), catS (n := 1 + 1) ([110] ++ [UInt8.ofNat (97 + k)]) argB rfl rfl cd_arg]; rfl
theorem ahead_s (s e : By) {i : Nat} (h : i < 20) : AV.str (s.length + 6 + 1 + 35 + e.length + 6) (strCat (s.length + 6 + 1 + 35 + e.length) (strCat (s.length + 6 + 1 + 35) (strCat (s.length + 6 + 1) (strCat (s.length + 6) (strCat s.length (codesL s) 121085419089774) (97 + i)) 244645580927798779256889762682621613746339029327401417727033170844658033462309713960) (codesL e)) 35649930666043) =
  .str (s ++ (nodeB ++ (ndB i ++ (sigB ++ (e ++ outB))))).length (codesL (s ++ (nodeB ++ (ndB i ++ (sigB ++ (e ++ outB)))))) := by
 rw [catS (n := s.length) s (nodeB ++ [110]) rfl rfl cd_nn, catS (n := s.length + 6) (s ++ (nodeB ++ [110])) [UInt8.ofNat (97 + i)] (by rw [List.length_append]; rfl) rfl (cd_let h),
  catS (n := s.length + 6 + 1) (s ++ (nodeB ++ [110]) ++ [UInt8.ofNat (97 + i)]) sigB (by rw [List.length_append, List.length_append]; rfl) rfl cd_sig,
  catS (n := s.length + 6 + 1 + 35) (s ++ (nodeB ++ [110]) ++ [UInt8.ofNat (97 + i)] ++ sigB) e (by rw [List.length_append, List.length_append, List.length_append]; rfl) rfl rfl,
  catS (n := s.length + 6 + 1 + 35 + e.length) (s ++ (nodeB ++ [110]) ++ [UInt8.ofNat (97 + i)] ++ sigB ++ e) outB (by rw [List.length_append, List.length_append, List.length_append, List.length_append]; rfl) rfl cd_out]
 have el : s ++ (nodeB ++ [110]) ++ [UInt8.ofNat (97 + i)] ++ sigB ++ e ++ outB = s ++ (nodeB ++ (ndB i ++ (sigB ++ (e ++ outB)))) := by
  simp only [List.append_assoc]; rfl
 rw [el]
 congr 1
 simp only [List.length_append]
 show s.length + 6 + 1 + 35 + e.length + 6 = s.length + (5 + (2 + (35 + (e.length + 6))))
 omega
@[go_sem] theorem bool_good : goodEq Try.prog 4 false = true := by kernel_rfl
theorem bool_eq {a b : Bool} : (eqB Try.prog 4).f (.bool a) (.bool b) = some (beqB a b) := by kernel_rfl
set_option maxHeartbeats 8000000 in
theorem ahead_spec (U : Usual nat) (hk : ∀ [Deep], nat 19 = some trueNat) (η : HN) (n a b : Nat) (hn : n < 18446744073709551616) (ha : a < 18446744073709551616) (hb : b < 18446744073709551616) :
  ∃ v η', CallN Try.prog nat 5 [.int .i64 n, .int .i64 a, .int .i64 b] η v η' ∧ v = .bool true := by
 refine call_of (PT := pl5) Try.func5 rfl (U 5 (by decide)) ok5 rfl ?_
 simp -implicitDefEqProofs (disch := omega) only [go_sem]
 refine thenN_call ⟨_, _, callN_true hk, ?_⟩
 simp -implicitDefEqProofs (disch := omega) only [go_sem, Bool.not_true]
 by_cases A1 : 9223372036854775807 < n
 ·have f1 := ltN_big A1 (m := 1) (by decide)
  simp -implicitDefEqProofs (disch := omega) only [go_sem, f1]
 by_cases A2 : n < 1
 ·simp -implicitDefEqProofs (disch := omega) only [go_sem]
 by_cases A3 : 20 < n
 ·simp -implicitDefEqProofs (disch := omega) only [go_sem]
 by_cases A4 : 9223372036854775807 < a
 ·have f1 := ltN_big A4 (m := 0) (by decide)
  simp -implicitDefEqProofs (disch := omega) only [go_sem, f1]
 by_cases A5 : n ≤ a
 ·simp -implicitDefEqProofs (disch := omega) only [go_sem, Bool.not_false, Bool.not_true]
 by_cases A6 : 9223372036854775807 < b
 ·have f1 := ltN_big A6 (m := 0) (by decide)
  simp -implicitDefEqProofs (disch := omega) only [go_sem, f1, Bool.not_false, Bool.not_true]
 by_cases A7 : n ≤ b
 ·simp -implicitDefEqProofs (disch := omega) only [go_sem, Bool.not_false, Bool.not_true]
 simp -implicitDefEqProofs (disch := omega) only [go_sem, Bool.not_false, Bool.not_true]
 obtain ⟨I, hI⟩ : ∃ I : Nat → FN → HN → Prop, ∀ m φ ζ, I m φ ζ ↔ ∃ i, m = n - i ∧ i ≤ n ∧ (φ 0 = .int .i64 n ∧ φ 1 = .int .i64 a ∧ φ 2 = .int .i64 b ∧ φ 8 = .int .i64 i ∧ φ 7 = .str (repB (aheadB a b) 0 i).length (codesL (repB (aheadB a b) 0 i))) := ⟨_, fun _ _ _ => Iff.rfl⟩
 refine wpN_loop I n ((hI _ _ _).2 ⟨0, rfl, Nat.zero_le _, rfl, rfl, rfl, rfl, rfl⟩) ?_
 intro m φ ζ hi
 obtain ⟨i, hm, hi, p0, p1, p2, p8, p7⟩ := (hI _ _ _).1 hi
 have sl := Go.Plain.row_len (fr := a) (to := b) (by omega) i 0
 by_cases hlt : i < n
 ·have r7 : repB (aheadB a b) 0 (i + 1) = repB (aheadB a b) 0 i ++ (nodeB ++ (ndB i ++ (sigB ++ (saysB a b i ++ outB)))) := by rw [repB_snoc, Nat.zero_add]; rfl
  by_cases hib : i = a
  ·obtain ⟨e, he, hle⟩ : ∃ e, e = ndB b ++ argB ∧ e.length = 5 := ⟨_, rfl, rfl⟩
   have es : saysB a b i = e := (if_pos hib).trans he.symm
   have sc := says_call (show b < 20 by omega)
   rw [← he] at sc
   rw [es] at r7
   simp -implicitDefEqProofs (disch := omega) only [go_sem, p0, p1, p2, p7, p8, repL_s, repL_z, setsL_c, sc]
   exact ⟨n - (i + 1), by omega, (hI _ _ _).2 ⟨i + 1, rfl, hlt, by exact p0, by exact p1, by exact p2, rfl, (by rw [r7]; exact ahead_s _ e (by omega))⟩⟩
  ·have es : saysB a b i = xB := if_neg hib
   rw [es] at r7
   simp -implicitDefEqProofs (disch := omega) only [go_sem, p0, p1, p2, p7, p8, repL_s, repL_z, setsL_c]
   exact ⟨n - (i + 1), by omega, (hI _ _ _).2 ⟨i + 1, rfl, hlt, by exact p0, by exact p1, by exact p2, rfl, (by rw [r7]; exact ahead_s _ xB (by omega))⟩⟩
 ·obtain rfl : i = n := by omega
  simp -implicitDefEqProofs (disch := omega) only [go_sem, p0, p1, p2, p7, p8]
  obtain ⟨c, ep⟩ := ahead_tree (fr := a) (to := b) (n := i) (by omega) (by omega) (by omega)
  refine thenN_call (parse_of U (cut_spec U) (by omega) fun v η2 tr E2 => ?_)
  obtain ⟨ls, r1, r2⟩ := tree_rd tr
  have okl := parse_ok (repB (aheadB a b) 0 i)
  rw [ep] at okl r2
  have e3 : ExtB η2.nx η2 (η2.new (.live false [.int .i64 (parseF (repB (aheadB a b) 0 i)).2.1, .int .i64 (parseF (repB (aheadB a b) 0 i)).2.2])) := extN (.refl _ _)
  simp -implicitDefEqProofs (disch := omega) only [go_sem, p0, p1, p2]
  refine thenN_call (back_spec U okl (r1.ext (base := 0) e3) (rdNs_keep (keep_b e3) e3.1 (fun _ h => h) r2) fun x4 η4 ls4 o4 r4 E4 => ?_)
  simp -implicitDefEqProofs (disch := omega) only [go_sem, p0, p1, p2]
  refine thenN_call (namesCheck_then U okl o4 r4 fun η5 E5 => ?_)
  have ef := ahead_fault (fr := a) (to := b) (n := i) (c := c) (by omega) (by omega) (by omega)
  cases en : namesF (Go.Plain.rowN a b c 0 i) with
  | none =>
   rw [en] at ef
   have hlt : b < a := ef ▸ rfl
   have e1 : faultOf 8 none = (0, 0) := rfl
   have e2 : (eqB Try.prog 4).f (.bool true) (.bool true) = some true := bool_eq
   rw [e1]
   simp -implicitDefEqProofs (disch := omega) only [go_sem, p0, p1, p2, e2]
   done
  | some w =>
   rw [en] at ef
   have hlt : ¬ b < a := fun g => by
    have : some w = none := by rw [ef]; exact g
    cases this
   have e1 : faultOf 8 (some w) = (8, w) := rfl
   have e2 : (eqB Try.prog 4).f (.bool false) (.bool false) = some true := bool_eq
   rw [e1]
   simp -implicitDefEqProofs (disch := omega) only [go_sem, p0, p1, p2, e2]
   done
end Go.Proofs.Ytpjmiopplfmcfaa
