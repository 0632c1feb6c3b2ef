/- What is proved: a node of so many outputs, one of them twice, is read as it is written; its first fault of names. NamesTwice, walked. Conditions: as each theorem says. -/
import Derived.Test.YtpjmiopplfmcfaaPlain
import Derived.KernelRfl
import Derived.Test.YtpjmiopplfmcfaaNameB
set_option linter.unusedVariables false
set_option linter.unusedSimpArgs false
set_option linter.unusedSectionVars false
namespace Go.Plain
open Go.Eng
set_option autoImplicit false
set_option maxRecDepth 100000
def nmB (k : Nat) : By := [119, UInt8.ofNat (97 + k / 26), UInt8.ofNat (97 + k % 26)]
def preB : By := [110, 111, 100, 101, 32, 102, 40, 41, 32, 114, 101, 116, 117, 114, 110, 115, 32, 40]
def endB : By := [58, 32, 105, 110, 116]
def sepB : By := [59, 32]
def midB : By := [41, 59, 32, 108, 101, 116, 32]
def oneB : By := [32, 61, 32, 49, 59, 32]
def telB : By := [116, 101, 108]
theorem nm_all : ∀ k, k < 60 → ∀ c ∈ nmB k, nameB c = true := by decide +kernel
theorem nm_kept : ∀ k, k < 60 → keptS (sS (nmB k)) = false := by decide +kernel
theorem nm_inj : ∀ i, i < 60 → ∀ j, j < 60 → sS (nmB i) = sS (nmB j) → i = j := by decide +kernel
theorem nm_is {k : Nat} (h : k < 60) : IsNm (nmB k) := ⟨⟨_, _, rfl, rfl⟩, nm_all k h, nm_kept k h, Nat.le_of_ble_eq_true rfl⟩
theorem nm_len (k : Nat) : (nmB k).length = 3 := rfl
def kap (a b i : Nat) : Nat := if i = b then a else i
def dB (a b i : Nat) : By := nmB (kap a b i) ++ (endB ++ sepB)
def eB (a b i : Nat) : By := nmB (kap a b i) ++ oneB
def twoB (n a b : Nat) : By := preB ++ (repB (dB a b) 0 (n - 1) ++ (nmB (kap a b (n - 1)) ++ (endB ++ (midB ++ (repB (eB a b) 0 n ++ telB)))))
noncomputable def gD (a b c i : Nat) : List Wd := [nam (sS (nmB (kap a b i))) c, sgn sColon (c + 3), kwd sInt (c + 5), sgn sSemi (c + 8)]
noncomputable def gE (a b c i : Nat) : List Wd := [nam (sS (nmB (kap a b i))) c, sgn sEq (c + 4), num sOne 1 (c + 6), sgn sSemi (c + 7)]
theorem cut_sep {a : Nat} {r : By} {l : List Wd} : cutT a ((endB ++ sepB) ++ r) l = cutT (a + 7) (r) (l ++ [sgn sColon a, kwd sInt (a + 2), sgn sSemi (a + 5)]) := by
 show cutT a (58 :: 32 :: 105 :: 110 :: 116 :: 59 :: 32 :: (r)) l = _
 refine (cutG (c := 58) (t := sColon) (a' := a + 1) (r := 32 :: 105 :: 110 :: 116 :: 59 :: 32 :: (r)) (by decide) (by kernel_rfl) rfl).trans ?_
 refine (cutS (a' := a + 2) (r := 105 :: 110 :: 116 :: 59 :: 32 :: (r)) rfl rfl).trans ?_
 refine (cutN (x := [105, 110, 116]) (a' := a + 5) (r := 59 :: 32 :: (r)) wd_int rfl rfl).trans ?_
 refine (cutG (c := 59) (t := sSemi) (a' := a + 6) (r := 32 :: (r)) (by decide) (by kernel_rfl) rfl).trans ?_
 refine (cutS (a' := a + 7) (r := (r)) rfl rfl).trans ?_
 simp only [List.append_assoc, List.cons_append, List.nil_append]
 rfl
theorem cut_one {a : Nat} {r : By} {l : List Wd} : cutT a (oneB ++ r) l = cutT (a + 6) (r) (l ++ [sgn sEq (a + 1), num sOne 1 (a + 3), sgn sSemi (a + 4)]) := by
 show cutT a (32 :: 61 :: 32 :: 49 :: 59 :: 32 :: (r)) l = _
 refine (cutS (a' := a + 1) (r := 61 :: 32 :: 49 :: 59 :: 32 :: (r)) rfl rfl).trans ?_
 refine (cutG (c := 61) (t := sEq) (a' := a + 2) (r := 32 :: 49 :: 59 :: 32 :: (r)) (by decide) (by kernel_rfl) rfl).trans ?_
 refine (cutS (a' := a + 3) (r := 49 :: 59 :: 32 :: (r)) rfl rfl).trans ?_
 refine (cutD (c := 49) (v := 1) (t := sOne) (a' := a + 4) (r := 59 :: 32 :: (r)) rfl rfl ⟨by kernel_rfl, by kernel_rfl⟩ (by kernel_rfl) rfl).trans ?_
 refine (cutG (c := 59) (t := sSemi) (a' := a + 5) (r := 32 :: (r)) (by decide) (by kernel_rfl) rfl).trans ?_
 refine (cutS (a' := a + 6) (r := (r)) rfl rfl).trans ?_
 simp only [List.append_assoc, List.cons_append, List.nil_append]
 rfl
theorem cut_pre {a : Nat} {r : By} {l : List Wd} : cutT a (preB ++ r) l = cutT (a + 18) (r) (l ++ [kwd sNode a, nam sF (a + 5), sgn sLp (a + 6), sgn sRp (a + 7), kwd sReturns (a + 9), sgn sLp (a + 17)]) := by
 show cutT a (110 :: 111 :: 100 :: 101 :: 32 :: 102 :: 40 :: 41 :: 32 :: 114 :: 101 :: 116 :: 117 :: 114 :: 110 :: 115 :: 32 :: 40 :: (r)) l = _
 refine (cutN (x := [110, 111, 100, 101]) (a' := a + 4) (r := 32 :: 102 :: 40 :: 41 :: 32 :: 114 :: 101 :: 116 :: 117 :: 114 :: 110 :: 115 :: 32 :: 40 :: (r)) wd_node rfl rfl).trans ?_
 refine (cutS (a' := a + 5) (r := 102 :: 40 :: 41 :: 32 :: 114 :: 101 :: 116 :: 117 :: 114 :: 110 :: 115 :: 32 :: 40 :: (r)) rfl rfl).trans ?_
 refine (cutN (x := [102]) (a' := a + 6) (r := 40 :: 41 :: 32 :: 114 :: 101 :: 116 :: 117 :: 114 :: 110 :: 115 :: 32 :: 40 :: (r)) wd_f rfl rfl).trans ?_
 refine (cutG (c := 40) (t := sLp) (a' := a + 7) (r := 41 :: 32 :: 114 :: 101 :: 116 :: 117 :: 114 :: 110 :: 115 :: 32 :: 40 :: (r)) (by decide) (by kernel_rfl) rfl).trans ?_
 refine (cutG (c := 41) (t := sRp) (a' := a + 8) (r := 32 :: 114 :: 101 :: 116 :: 117 :: 114 :: 110 :: 115 :: 32 :: 40 :: (r)) (by decide) (by kernel_rfl) rfl).trans ?_
 refine (cutS (a' := a + 9) (r := 114 :: 101 :: 116 :: 117 :: 114 :: 110 :: 115 :: 32 :: 40 :: (r)) rfl rfl).trans ?_
 refine (cutN (x := [114, 101, 116, 117, 114, 110, 115]) (a' := a + 16) (r := 32 :: 40 :: (r)) wd_returns rfl rfl).trans ?_
 refine (cutS (a' := a + 17) (r := 40 :: (r)) rfl rfl).trans ?_
 refine (cutG (c := 40) (t := sLp) (a' := a + 18) (r := (r)) (by decide) (by kernel_rfl) rfl).trans ?_
 simp only [List.append_assoc, List.cons_append, List.nil_append]
 rfl
theorem cut_mid {a : Nat} {r : By} {l : List Wd} : cutT a ((endB ++ midB) ++ r) l = cutT (a + 12) (r) (l ++ [sgn sColon a, kwd sInt (a + 2), sgn sRp (a + 5), sgn sSemi (a + 6), kwd sLet (a + 8)]) := by
 show cutT a (58 :: 32 :: 105 :: 110 :: 116 :: 41 :: 59 :: 32 :: 108 :: 101 :: 116 :: 32 :: (r)) l = _
 refine (cutG (c := 58) (t := sColon) (a' := a + 1) (r := 32 :: 105 :: 110 :: 116 :: 41 :: 59 :: 32 :: 108 :: 101 :: 116 :: 32 :: (r)) (by decide) (by kernel_rfl) rfl).trans ?_
 refine (cutS (a' := a + 2) (r := 105 :: 110 :: 116 :: 41 :: 59 :: 32 :: 108 :: 101 :: 116 :: 32 :: (r)) rfl rfl).trans ?_
 refine (cutN (x := [105, 110, 116]) (a' := a + 5) (r := 41 :: 59 :: 32 :: 108 :: 101 :: 116 :: 32 :: (r)) wd_int rfl rfl).trans ?_
 refine (cutG (c := 41) (t := sRp) (a' := a + 6) (r := 59 :: 32 :: 108 :: 101 :: 116 :: 32 :: (r)) (by decide) (by kernel_rfl) rfl).trans ?_
 refine (cutG (c := 59) (t := sSemi) (a' := a + 7) (r := 32 :: 108 :: 101 :: 116 :: 32 :: (r)) (by decide) (by kernel_rfl) rfl).trans ?_
 refine (cutS (a' := a + 8) (r := 108 :: 101 :: 116 :: 32 :: (r)) rfl rfl).trans ?_
 refine (cutN (x := [108, 101, 116]) (a' := a + 11) (r := 32 :: (r)) wd_let rfl rfl).trans ?_
 refine (cutS (a' := a + 12) (r := (r)) rfl rfl).trans ?_
 simp only [List.append_assoc, List.cons_append, List.nil_append]
 rfl
theorem cut_tel {a : Nat} {r : By} {l : List Wd} : cutT a (telB ++ []) l = cutT (a + 3) ([]) (l ++ [kwd sTel a]) := by
 show cutT a (116 :: 101 :: 108 :: ([])) l = _
 refine (cutN (x := [116, 101, 108]) (a' := a + 3) (r := ([])) wd_tel rfl rfl).trans ?_
 rfl
theorem span_sep {r : By} : spanL nameB ((endB ++ sepB) ++ r) = 0 := rfl
theorem span_one {r : By} : spanL nameB (oneB ++ r) = 0 := rfl
theorem span_mid {r : By} : spanL nameB (endB ++ r) = 0 := rfl
section
variable {a b n : Nat}
theorem kap_lt {i : Nat} (ha : a < n) (hi : i < n) : kap a b i < n := by unfold kap; split <;> assumption
theorem cutDl (hn : n ≤ 60) (ha : a < n) {j : Nat} (hj : j < n) (c : Nat) (r : By) (l : List Wd) : cutT c (dB a b j ++ r) l = cutT (c + 10) r (l ++ gD a b c j) := by
 unfold dB
 rw [List.append_assoc, cutT_name (nm_is (Nat.lt_of_lt_of_le (kap_lt ha hj) hn)) span_sep, nm_len, cut_sep]
 simp only [List.append_assoc, gD, List.cons_append, List.nil_append, Nat.add_assoc]
theorem cutEl (hn : n ≤ 60) (ha : a < n) {j : Nat} (hj : j < n) (c : Nat) (r : By) (l : List Wd) : cutT c (eB a b j ++ r) l = cutT (c + 9) r (l ++ gE a b c j) := by
 unfold eB
 rw [List.append_assoc, cutT_name (nm_is (Nat.lt_of_lt_of_le (kap_lt ha hj) hn)) span_one, nm_len, cut_one]
 simp only [List.append_assoc, gE, List.cons_append, List.nil_append, Nat.add_assoc]
end
noncomputable def twoW (n a b : Nat) : List Wd :=
 [kwd sNode 0, nam sF 5, sgn sLp 6, sgn sRp 7, kwd sReturns 9, sgn sLp 17] ++ (repW (gD a b) 10 18 0 (n - 1) ++
  ([nam (sS (nmB (kap a b (n - 1)))) (18 + (n - 1) * 10), sgn sColon (18 + (n - 1) * 10 + 3), kwd sInt (18 + (n - 1) * 10 + 5), sgn sRp (18 + (n - 1) * 10 + 8), sgn sSemi (18 + (n - 1) * 10 + 9), kwd sLet (18 + (n - 1) * 10 + 11)] ++
   (repW (gE a b) 9 (18 + (n - 1) * 10 + 15) 0 n ++ [kwd sTel (18 + (n - 1) * 10 + 15 + n * 9), endW (18 + (n - 1) * 10 + 15 + n * 9 + 3)])))
theorem two_len {n a b : Nat} : (twoB n a b).length = 18 + ((n - 1) * 10 + (3 + (5 + (7 + (n * 9 + 3))))) := by
 unfold twoB
 simp only [List.length_append, nm_len]
 rw [repB_len (s := 10) (n - 1) 0 (fun _ _ _ => rfl), repB_len (s := 9) n 0 (fun _ _ _ => rfl)]; rfl
theorem two_cut {n a b : Nat} (h0 : 0 < n) (hn : n ≤ 60) (ha : a < n) : cutF (twoB n a b) = (twoW n a b, 0, 0) := by
 have hl : (twoB n a b).length ≤ 16384 := by rw [two_len]; omega
 rw [cutF_T hl]
 unfold twoB
 rw [cut_pre, cut_rep (g := gD a b) (step := 10) _ _ _ _ _ fun j _ hj c r l => cutDl hn ha (by omega) c r l,
  cutT_name (nm_is (Nat.lt_of_lt_of_le (kap_lt ha (by omega)) hn)) span_mid, nm_len, ← List.append_assoc endB]
 rw [cut_mid, show 0 + 18 + (n - 1) * 10 + 3 + 12 = 18 + (n - 1) * 10 + 15 by omega, cut_rep (g := gE a b) (step := 9) _ _ _ _ _ fun j _ hj c r l => cutEl hn ha (by omega) c r l]
 rw [← List.append_nil telB, cut_tel (r := []), cutT_end]
 unfold twoW
 simp only [List.append_assoc, List.cons_append, List.nil_append, Nat.zero_add, Nat.add_assoc, Nat.reduceAdd]
noncomputable def vD (a b : Nat) : Nat → Nat → Nat → List Vr
 | _, _, 0 => []
 | c, i, m + 1 => ⟨sS (nmB (kap a b i)), 2, (0, 0), false, c⟩ :: vD a b (c + 10) (i + 1) m
section
variable {L : List Wd} {a b : Nat}
theorem repW_s {g : Nat → Nat → List Wd} {s c i m : Nat} : repW g s c i (m + 1) = g c i ++ repW g s (c + s) (i + 1) m := rfl
theorem gD_drop {k c i m : Nat} {r : List Wd} (h : L.drop k = repW (gD a b) 10 c i (m + 1) ++ r) : L.drop k = nam (sS (nmB (kap a b i))) c :: sgn sColon (c + 3) :: kwd sInt (c + 5) :: sgn sSemi (c + 8) :: (repW (gD a b) 10 (c + 10) (i + 1) m ++ r) := h
theorem declsRep : ∀ (m k q n c i a1 a2 a3 fu : Nat) (l : List Vr) (r : List Wd), L.drop k = repW (gD a b) 10 c i m ++ (nam (sS (nmB (kap a b (i + m)))) (c + m * 10) :: sgn sColon a1 :: kwd sInt a2 :: sgn sRp a3 :: r) → n + m < 64 → m ≤ fu →
  declsL L fu (l ++ (declF L (pl k q n)).1) (declF L (pl k q n)).2 = (l ++ vD a b c i (m + 1), pl (k + 4 * m + 3) q (n + m + 1))
 | 0, k, q, n, c, i, a1, a2, a3, fu, l, r, h, hn, hf => by
  have h : L.drop k = nam (sS (nmB (kap a b i))) (c + 0 * 10) :: sgn sColon a1 :: kwd sInt a2 :: sgn sRp a3 :: r := h
  rw [decl_one (L := L) false (gw0 h) (gw h 1) (gw h 2) (len_pos h) (by omega)]
  rw [decls_end (gw h 3), Nat.zero_mul]; rfl
 | m + 1, k, q, n, c, i, a1, a2, a3, 0, l, r, h, hn, hf => absurd hf (by omega)
 | m + 1, k, q, n, c, i, a1, a2, a3, fu + 1, l, r, h, hn, hf => by
  have h := gD_drop h
  have h4 : L.drop (k + 4) = _ := dw (ws := [_, _, _, _]) h
  have e4 := decl_one (L := L) (q := q) (n := n) false (gw0 h) (gw h 1) (gw h 2) (len_pos h) (by omega)
  rw [e4]
  have ih := declsRep m (k + 4) q (n + 1) (c + 10) (i + 1) a1 a2 a3 fu (l ++ [⟨sS (nmB (kap a b i)), 2, (0, 0), false, c⟩]) r (by rw [h4, show i + 1 + m = i + (m + 1) by omega, show c + 10 + m * 10 = c + (m + 1) * 10 by omega]; rfl) (by omega) (by omega)
  rw [decls_s (k := k + 3) (gw h 3) (show declF L (pl (k + 3 + 1) q (n + 1)) = (_, _) from rfl)]
  rw [show k + 4 + 4 * m + 3 = k + 4 * (m + 1) + 3 by omega, show n + 1 + m + 1 = n + (m + 1) + 1 by omega] at ih
  refine ih.trans ?_
  rw [List.append_assoc]; rfl
theorem eqsRep : ∀ (m k q n c i fu a1 : Nat) (l : List Eqn) (r : List Wd), L.drop k = repW (gE a b) 9 c i m ++ (kwd sTel a1 :: r) → m ≤ fu →
  ∃ es q', eqsL L fu l (pl k q n) = (l ++ es, pl (k + 4 * m) q' n)
 | 0, k, q, n, c, i, fu, a1, l, r, h, hf => ⟨[], q, by rw [eqs_end (gw0 h), List.append_nil]; rfl⟩
 | m + 1, k, q, n, c, i, 0, a1, l, r, h, hf => absurd hf (by omega)
 | m + 1, k, q, n, c, i, fu + 1, a1, l, r, h, hf => by
  have h : L.drop k = nam (sS (nmB (kap a b i))) c :: sgn sEq (c + 4) :: num sOne 1 (c + 6) :: sgn sSemi (c + 7) :: (repW (gE a b) 9 (c + 9) (i + 1) m ++ (kwd sTel a1 :: r)) := h
  have h4 : L.drop (k + 4) = _ := dw (ws := [_, _, _, _]) h
  have e1 : exprF L (lvl L 30) (pl (k + 2) 0 n) = (.mk sInt (0, 0) 1 (c + 6) [], pl (k + 3) 1 n) :=
   arrow_atom (prim_num (gw h 2) (by decide)) (noun_num (gw h 2)) (calm_sgn (gw h 3) (by decide))
  have e2 := eq_at (L := L) (q := q) (gw0 h) (gw h 1) e1 (gw h 3)
  rw [eqs_s (gw0 h) e2]
  obtain ⟨es, q', e⟩ := eqsRep m (k + 4) 1 n (c + 9) (i + 1) fu a1 (l ++ [⟨sS (nmB (kap a b i)), .mk sInt (0, 0) 1 (c + 6) [], c⟩]) r h4 (by omega)
  refine ⟨⟨sS (nmB (kap a b i)), .mk sInt (0, 0) 1 (c + 6) [], c⟩ :: es, q', ?_⟩
  rw [show k + 4 + 4 * m = k + 4 * (m + 1) by omega, List.append_assoc] at e
  exact e
end
theorem repW_len {g : Nat → Nat → List Wd} {s z : Nat} (hg : ∀ c i, (g c i).length = z) : ∀ (m c i : Nat), (repW g s c i m).length = m * z
 | 0, c, i => by simp [repW]
 | m + 1, c, i => by rw [repW_s, List.length_append, hg, repW_len hg m, Nat.add_mul]; omega
theorem gD_head {a b : Nat} : ∀ (m : Nat) (t0 : S) (a0 : Nat) (r : List Wd), ∃ t a' r', repW (gD a b) 10 18 0 m ++ (nam t0 a0 :: r) = nam t a' :: r'
 | 0, t0, a0, r => ⟨t0, a0, r, rfl⟩
 | m + 1, t0, a0, r => ⟨_, _, _, rfl⟩
theorem two_tree {n a b : Nat} (h0 : 0 < n) (hn : n ≤ 60) (ha : a < n) : ∃ es, parseF (twoB n a b) = ([⟨sF, [], vD a b 18 0 n, [], es, 0⟩], 0, 0) := by
 unfold parseF
 rw [two_cut h0 hn ha, if_pos rfl]
 show ∃ es, treeF (twoW n a b) = _
 generalize hL : twoW n a b = L
 have h : L.drop 0 = kwd sNode 0 :: nam sF 5 :: sgn sLp 6 :: sgn sRp 7 :: kwd sReturns 9 :: sgn sLp 17 :: (repW (gD a b) 10 18 0 (n - 1) ++
  (nam (sS (nmB (kap a b (n - 1)))) (18 + (n - 1) * 10) :: sgn sColon (18 + (n - 1) * 10 + 3) :: kwd sInt (18 + (n - 1) * 10 + 5) :: sgn sRp (18 + (n - 1) * 10 + 8) :: sgn sSemi (18 + (n - 1) * 10 + 9) :: kwd sLet (18 + (n - 1) * 10 + 11) ::
   (repW (gE a b) 9 (18 + (n - 1) * 10 + 15) 0 n ++ [kwd sTel (18 + (n - 1) * 10 + 15 + n * 9), endW (18 + (n - 1) * 10 + 15 + n * 9 + 3)]))) := by rw [← hL]; rfl
 have hlen : L.length = 14 + 4 * (n - 1) + 4 * n := by
  rw [← hL]
  unfold twoW
  simp only [List.length_append, repW_len (g := gD a b) (z := 4) (fun _ _ => rfl), repW_len (g := gE a b) (z := 4) (fun _ _ => rfl), List.length_cons, List.length_nil]
  omega
 have h6 : L.drop (0 + 6) = _ := dw (ws := [_, _, _, _, _, _]) h
 have h7 : L.drop (6 + 4 * (n - 1)) = nam (sS (nmB (kap a b (n - 1)))) (18 + (n - 1) * 10) :: sgn sColon (18 + (n - 1) * 10 + 3) :: kwd sInt (18 + (n - 1) * 10 + 5) :: sgn sRp (18 + (n - 1) * 10 + 8) :: sgn sSemi (18 + (n - 1) * 10 + 9) :: kwd sLet (18 + (n - 1) * 10 + 11) ::
   (repW (gE a b) 9 (18 + (n - 1) * 10 + 15) 0 n ++ [kwd sTel (18 + (n - 1) * 10 + 15 + n * 9), endW (18 + (n - 1) * 10 + 15 + n * 9 + 3)]) := by
  have := dw h6
  rw [repW_len (z := 4) (fun _ _ => rfl), show 0 + 6 + (n - 1) * 4 = 6 + 4 * (n - 1) by omega] at this
  exact this
 have h8 : L.drop (6 + 4 * (n - 1) + 6) = _ := dw (ws := [_, _, _, _, _, _]) h7
 have h9 : L.drop (6 + 4 * (n - 1) + 6 + 4 * n) = [kwd sTel (18 + (n - 1) * 10 + 15 + n * 9), endW (18 + (n - 1) * 10 + 15 + n * 9 + 3)] := by
  have := dw h8
  rw [repW_len (z := 4) (fun _ _ => rfl), show 6 + 4 * (n - 1) + 6 + n * 4 = 6 + 4 * (n - 1) + 6 + 4 * n by omega] at this
  exact this
 obtain ⟨es, q', e4⟩ := eqsRep (L := L) (a := a) (b := b) n (6 + 4 * (n - 1) + 6) 0 n _ 0 L.length _ [] _ h8 (by omega)
 have e2 : declsF L (pl 6 0 0) = (vD a b 18 0 n, pl (6 + 4 * (n - 1) + 3) 0 n) := by
  have := declsRep (L := L) (a := a) (b := b) (n - 1) 6 0 0 18 0 (18 + (n - 1) * 10 + 3) (18 + (n - 1) * 10 + 5) (18 + (n - 1) * 10 + 8) L.length [] _ (by rw [Nat.zero_add (n - 1)]; exact h6) (by omega) (by omega)
  rw [show n - 1 + 1 = n by omega, show 0 + (n - 1) + 1 = n by omega] at this
  have hh : ∃ t a, L.getD 6 W0 = nam t a := by
   obtain ⟨t, a', r', e⟩ := gD_head (a := a) (b := b) (n - 1) (sS (nmB (kap a b (n - 1)))) (18 + (n - 1) * 10) (sgn sColon (18 + (n - 1) * 10 + 3) :: kwd sInt (18 + (n - 1) * 10 + 5) :: sgn sRp (18 + (n - 1) * 10 + 8) :: sgn sSemi (18 + (n - 1) * 10 + 9) :: kwd sLet (18 + (n - 1) * 10 + 11) :: (repW (gE a b) 9 (18 + (n - 1) * 10 + 15) 0 n ++ [kwd sTel (18 + (n - 1) * 10 + 15 + n * 9), endW (18 + (n - 1) * 10 + 15 + n * 9 + 3)]))
   exact ⟨t, a', gw0 (h6.trans e)⟩
  obtain ⟨t, a', g⟩ := hh
  exact decls_of g this
 have nd : nodeF L (pl 0 0 0) = (⟨sF, [], vD a b 18 0 n, [], es, 0⟩, pl (6 + 4 * (n - 1) + 6 + 4 * n + 1) q' n) := by
  have g : ∀ i, L.getD (6 + 4 * (n - 1) + i) W0 = _ := gw h7
  refine node_at (L := L) (k := 0) (k1 := 3) (k2 := 6 + 4 * (n - 1) + 3) (k3 := 6 + 4 * (n - 1) + 5) (k4 := 6 + 4 * (n - 1) + 6 + 4 * n) (n1 := 0) (n2 := n) (n3 := n) (q1 := q') (gw0 h) (gw h 1) (gw h 2) (decls_none (gw h 3)) (gw h 3) (gw h 4) (gw h 5) e2 (g 3) (g 4) (vars_none (g 5)) (g 5) e4 (gw0 h9) ?_
  unfold takeP
  rw [is_end (gw h9 1)]; rfl
 have et : nodesL L 34 [] ⟨0, 0, 0, 0, 0⟩ = ([⟨sF, [], vD a b 18 0 n, [], es, 0⟩], pl (6 + 4 * (n - 1) + 6 + 4 * n + 1) q' n) := by
  rw [nodes_s (L := L) (k := 0) (q := 0) (n := 0) (by decide) (.inl rfl) nd, nodes_end (by exact Nat.succ_ne_zero 0) (by rw [gw h9 1]; rfl)]; rfl
 refine ⟨es, ?_⟩
 unfold treeF
 rw [et]; rfl
theorem dup_two {a b n : Nat} (hn : n ≤ 60) (hab : a < b) (hb : b < n) : ∀ (m i c : Nat) (P : S → Bool), i ≤ b → b < i + m → i + m ≤ n → (∀ s, P s = true ↔ ∃ j, j < i ∧ s = sS (nmB j)) → (dupL (vD a b c i m) P).1 = some (c + 10 * (b - i))
 | 0, i, c, P, h1, h2, _, _ => absurd h2 (by omega)
 | m + 1, i, c, P, h1, h2, h3, hP => by
  show (if P (sS (nmB (kap a b i))) then ((some c, P) : Option Nat × (S → Bool)) else dupL (vD a b (c + 10) (i + 1) m) _).1 = _
  by_cases e : i = b
  ·subst e
   have : P (sS (nmB (kap a i i))) = true := (hP _).2 ⟨a, hab, by unfold kap; rw [if_pos rfl]⟩
   rw [if_pos this, Nat.sub_self]; rfl
  ·have k : kap a b i = i := if_neg e
   have : P (sS (nmB (kap a b i))) = false := by
    rw [k]
    refine Bool.eq_false_iff.2 fun g => ?_
    obtain ⟨j, hj, g⟩ := (hP _).1 g
    have := nm_inj i (by omega) j (by omega) g
    omega
   rw [if_neg (by rw [this]; decide), k, dup_two hn hab hb m (i + 1) (c + 10) _ (by omega) (by omega) (by omega) (fun s => ?_), show c + 10 + 10 * (b - (i + 1)) = c + 10 * (b - i) by omega]
   rw [Bool.or_eq_true, decide_eq_true_iff, hP]
   constructor
   ·rintro (g | ⟨j, hj, g⟩)
    ·exact ⟨i, Nat.lt_succ_self _, g⟩
    ·exact ⟨j, by omega, g⟩
   ·rintro ⟨j, hj, g⟩
    by_cases e2 : j = i
    ·exact .inl (e2 ▸ g)
    ·exact .inr ⟨j, by omega, g⟩
theorem two_fault {n a b : Nat} (hn : n ≤ 60) (hab : a < b) (hb : b < n) {es : List Eqn} : namesF [⟨sF, [], vD a b 18 0 n, [], es, 0⟩] = some (18 + 10 * b) := by
 have d := dup_two hn hab hb n 0 18 (fun _ => false) (by omega) (by omega) (by omega) (fun s => ⟨(fun h => by cases h), (fun ⟨j, h, _⟩ => absurd h (Nat.not_lt_zero j))⟩)
 have vl : (vD a b 18 0 n).length ≠ 0 := by
  obtain _ | m := n
  ·omega
  ·exact Nat.succ_ne_zero _
 unfold namesF namesL nodeC
 rw [if_neg (show ¬ (nodeIx [] sF).isSome = true from Bool.false_ne_true), if_neg vl]
 have dc : (declC ⟨sF, [], vD a b 18 0 n, [], es, 0⟩).1 = some (18 + 10 * b) := by
  unfold declC
  dsimp only
  rw [List.nil_append]
  cases e : dupL (vD a b 18 0 n) (fun _ => false) with
  | mk o P =>
   rw [e] at d
   dsimp only at d
   subst d
   rfl
 cases e : declC ⟨sF, [], vD a b 18 0 n, [], es, 0⟩ with
 | mk o P =>
  rw [e] at dc
  dsimp only at dc
  subst dc
  rfl
end Go.Plain
namespace Go.Plain
open Go.Eng
set_option autoImplicit false
theorem codesL_app : ∀ x y : By, codesL (x ++ y) = codesL x + 256 ^ x.length * codesL y
 | [], y => by show codesL y = 0 + 1 * codesL y; omega
 | c :: x, y => by
  show c.toNat + 256 * codesL (x ++ y) = c.toNat + 256 * codesL x + 256 ^ (x.length + 1) * codesL y
  rw [codesL_app x y, Nat.pow_succ, Nat.mul_add]
  have : 256 * (256 ^ x.length * codesL y) = 256 ^ x.length * 256 * codesL y := by rw [Nat.mul_comm (256 ^ x.length) 256, Nat.mul_assoc]
  omega
theorem cat_codes (x y : By) : strCat x.length (codesL x) (codesL y) = codesL (x ++ y) := by
 rw [codesL_app]
 unfold strCat
 show codesL x + codesL y <<< (8 * x.length) = _
 rw [Nat.shiftLeft_eq, Nat.pow_mul, Nat.mul_comm]
theorem catS {n v w : Nat} (x y : By) (hx : x.length = n) (cx : codesL x = v) (cy : codesL y = w) : strCat n v w = codesL (x ++ y) := by
 subst hx cx cy
 exact cat_codes x y
theorem u8_of {n : Nat} (h : n < 256) : (UInt8.ofNat n).toNat = n := by
 show n % 256 = n
 exact Nat.mod_eq_of_lt h
end Go.Plain
namespace Go.Proofs.Ytpjmiopplfmcfaa
open Go.Eng Go.Plain
set_option autoImplicit false
set_option maxRecDepth 100000
variable {nat : ∀ [Deep], Nats}
attribute [local irreducible] wpN
@[go_sem] theorem opd_t_w {φ : FN} : opd φ (.const (.string ⟨#[119]⟩)) = .str 1 119 := rfl
@[go_sem] theorem opd_t_end {φ : FN} : opd φ (.const (.string ⟨#[58, 32, 105, 110, 116]⟩)) = .str 5 500068589626 := rfl
theorem cd_end : codesL endB = 500068589626 := by kernel_rfl
@[go_sem] theorem opd_t_sep {φ : FN} : opd φ (.const (.string ⟨#[59, 32]⟩)) = .str 2 8251 := rfl
theorem cd_sep : codesL sepB = 8251 := by kernel_rfl
@[go_sem] theorem opd_t_one {φ : FN} : opd φ (.const (.string ⟨#[32, 61, 32, 49, 59, 32]⟩)) = .str 6 35438599355680 := rfl
theorem cd_one : codesL oneB = 35438599355680 := by kernel_rfl
@[go_sem] theorem opd_t_pre {φ : FN} : opd φ (.const (.string ⟨#[110, 111, 100, 101, 32, 102, 40, 41, 32, 114, 101, 116, 117, 114, 110, 115, 32, 40]⟩)) = .str 18 3495533907705550013584256497229743740186478 := rfl
theorem cd_pre : codesL preB = 3495533907705550013584256497229743740186478 := by kernel_rfl
@[go_sem] theorem opd_t_mid {φ : FN} : opd φ (.const (.string ⟨#[41, 59, 32, 108, 101, 116, 32]⟩)) = .str 7 9135178209311529 := rfl
theorem cd_mid : codesL midB = 9135178209311529 := by kernel_rfl
theorem cd_tel : codesL telB = 7103860 := by kernel_rfl
theorem ltN_bigr {n m : Nat} (h : 9223372036854775807 < n) (hm : m < 9223372036854775808) : ltN .i64 m n = false := by
 have h1 : nneg .i64 n = false := by
  cases hq : nneg .i64 n with
  | false => rfl
  | true => exact absurd (ble_true.1 hq) (by show ¬ Nat.succ n ≤ 9223372036854775808; omega)
 have h2 : nneg .i64 m = true := ble_true.2 (show Nat.succ m ≤ 9223372036854775808 by omega)
 unfold ltN
 rw [h1, h2]; rfl
def sB (n a b i : Nat) : By := if i < n then repB (dB a b) 0 i else repB (dB a b) 0 (n - 1) ++ (nmB (kap a b (n - 1)) ++ endB)
theorem sB_0 {n a b : Nat} (h : 0 < n) : sB n a b 0 = [] := if_pos h
theorem sB_s {n a b i : Nat} (h : i + 1 < n) : sB n a b (i + 1) = sB n a b i ++ (nmB (kap a b i) ++ (endB ++ sepB)) := by
 unfold sB
 rw [if_pos h, if_pos (by omega), repB_snoc, Nat.zero_add]; rfl
theorem sB_e {n a b i : Nat} (h : i + 1 = n) : sB n a b (i + 1) = sB n a b i ++ (nmB (kap a b i) ++ endB) := by
 subst h
 unfold sB
 rw [if_neg (by omega), if_pos (by omega)]; rfl
theorem sB_len {n a b i : Nat} (h : i < n) : (sB n a b i).length = 10 * i := by
 unfold sB
 rw [if_pos h, repB_len (s := 10) i 0 (fun _ _ _ => rfl)]; omega
theorem two_text {n a b : Nat} : preB ++ sB n a b n ++ midB ++ repB (eB a b) 0 n ++ telB = twoB n a b := by
 unfold sB twoB
 rw [if_neg (by omega)]
 simp only [List.append_assoc]
theorem nm_codes {k : Nat} (h : k < 60) : strCat 1 119 (97 + k / 26 + 256 * (97 + k % 26)) = codesL (nmB k) := by
 have e := catS [119] [UInt8.ofNat (97 + k / 26), UInt8.ofNat (97 + k % 26)] rfl rfl (w := 97 + k / 26 + 256 * (97 + k % 26)) (by
  show (UInt8.ofNat (97 + k / 26)).toNat + 256 * ((UInt8.ofNat (97 + k % 26)).toNat + 256 * 0) = _
  rw [u8_of (by omega), u8_of (by omega)]; omega)
 exact e
@[go_sem] theorem bytes_1 {x : Nat} : bytesN [.int .u8 x] = some (x + 256 * 0) := rfl
@[go_sem] theorem bytes_2 {x y : Nat} : bytesN [.int .u8 x, .int .u8 y] = some (x + 256 * (y + 256 * 0)) := rfl
@[go_sem] theorem strO_s {n v : Nat} {η : HN} : strO n (some v) η = .ok (.str n v) η := rfl
theorem e7s (x : By) {k : Nat} (h : k < 60) : AV.str (x.length + (1 + 2) + 5 + 2) (strCat (x.length + (1 + 2) + 5) (strCat (x.length + (1 + 2)) (strCat x.length (codesL x) (strCat 1 119 (97 + k / 26 + 256 * (97 + k % 26)))) 500068589626) 8251) = .str (x ++ (nmB k ++ (endB ++ sepB))).length (codesL (x ++ (nmB k ++ (endB ++ sepB)))) := by
 rw [nm_codes h, cat_codes, catS (n := x.length + (1 + 2)) (x ++ nmB k) endB (by rw [List.length_append]; rfl) rfl cd_end, catS (n := x.length + (1 + 2) + 5) (x ++ nmB k ++ endB) sepB (by rw [List.length_append, List.length_append]; rfl) rfl cd_sep]
 simp only [List.append_assoc, List.length_append]
 rfl
theorem e7e (x : By) {k : Nat} (h : k < 60) : AV.str (x.length + (1 + 2) + 5) (strCat (x.length + (1 + 2)) (strCat x.length (codesL x) (strCat 1 119 (97 + k / 26 + 256 * (97 + k % 26)))) 500068589626) = .str (x ++ (nmB k ++ endB)).length (codesL (x ++ (nmB k ++ endB))) := by
 rw [nm_codes h, cat_codes, catS (n := x.length + (1 + 2)) (x ++ nmB k) endB (by rw [List.length_append]; rfl) rfl cd_end]
 simp only [List.append_assoc, List.length_append]
 rfl
theorem e8 (x : By) {k : Nat} (h : k < 60) : AV.str (x.length + (1 + 2) + 6) (strCat (x.length + (1 + 2)) (strCat x.length (codesL x) (strCat 1 119 (97 + k / 26 + 256 * (97 + k % 26)))) 35438599355680) = .str (x ++ (nmB k ++ oneB)).length (codesL (x ++ (nmB k ++ oneB))) := by
 rw [nm_codes h, cat_codes, catS (n := x.length + (1 + 2)) (x ++ nmB k) oneB (by rw [List.length_append]; rfl) rfl cd_one]
 simp only [List.append_assoc, List.length_append]
 rfl
theorem e_text (s e : By) : AV.str (18 + s.length + 7 + e.length + 3) (strCat (18 + s.length + 7 + e.length) (strCat (18 + s.length + 7) (strCat (18 + s.length) (strCat 18 3495533907705550013584256497229743740186478 (codesL s)) 9135178209311529) (codesL e)) 7103860) = .str (preB ++ s ++ midB ++ e ++ telB).length (codesL (preB ++ s ++ midB ++ e ++ telB)) := by
 rw [catS (n := 18) preB s rfl cd_pre rfl, catS (n := 18 + s.length) (preB ++ s) midB (by rw [List.length_append]; rfl) rfl cd_mid, catS (n := 18 + s.length + 7) (preB ++ s ++ midB) e (by rw [List.length_append, List.length_append]; rfl) rfl rfl,
  catS (n := 18 + s.length + 7 + e.length) (preB ++ s ++ midB ++ e) telB (by rw [List.length_append, List.length_append, List.length_append]; rfl) rfl cd_tel]
 congr 1
 simp only [List.length_append]
 rfl
theorem bad_eq {a b c d : Nat} : (eqB Try.prog 26).f (.agg [.int .i64 a, .int .i64 b]) (.agg [.int .i64 c, .int .i64 d]) = oB (some (Nat.beq a c)) (oB (some (Nat.beq b d)) (some true) (some false) none) (some false) none := by kernel_rfl
theorem bad_eq_t {a b : Nat} : (eqB Try.prog 26).f (.agg [.int .i64 a, .int .i64 b]) (.agg [.int .i64 a, .int .i64 b]) = some true := by rw [bad_eq, Nat.beq_refl, Nat.beq_refl]; rfl
@[go_sem] theorem bad_good : goodEq Try.prog 26 false = true := by kernel_rfl
set_option maxHeartbeats 8000000 in
theorem twice_spec (U : Usual nat) (hk : ∀ [Deep], nat 19 = some trueNat) (η : HN) (n a b : Nat) (hn : n < 18446744073709551616) (ha : a < 18446744073709551616) (hb : b < 18446744073709551616) :
  ∃ v η', CallN Try.prog nat 4 [.int .i64 n, .int .i64 a, .int .i64 b] η v η' ∧ v = .bool true := by
 refine call_of (PT := pl4) Try.func4 rfl (U 4 (by decide)) ok4 rfl ?_
 simp -implicitDefEqProofs (disch := omega) only [go_sem]
 refine thenN_call ⟨_, _, callN_true hk, ?_⟩
 simp -implicitDefEqProofs (disch := omega) only [go_sem, Bool.not_true]
 by_cases A1 : 9223372036854775807 < n
 ·have f1 := ltN_big A1 (m := 2) (by decide)
  simp -implicitDefEqProofs (disch := omega) only [go_sem, f1]
 by_cases A2 : n < 2
 ·simp -implicitDefEqProofs (disch := omega) only [go_sem]
 by_cases A3 : 60 < n
 ·simp -implicitDefEqProofs (disch := omega) only [go_sem]
 by_cases A4 : 9223372036854775807 < a
 ·have f1 := ltN_big A4 (m := 0) (by decide)
  simp -implicitDefEqProofs (disch := omega) only [go_sem, f1]
 by_cases A5 : 9223372036854775807 < b
 ·have f1 := ltN_bigr A5 (m := a) (by omega)
  simp -implicitDefEqProofs (disch := omega) only [go_sem, f1, Bool.not_false]
 by_cases A6 : b ≤ a
 ·simp -implicitDefEqProofs (disch := omega) only [go_sem, Bool.not_false]
 by_cases A7 : n ≤ b
 ·simp -implicitDefEqProofs (disch := omega) only [go_sem, Bool.not_false, Bool.not_true]
 simp -implicitDefEqProofs (disch := omega) only [go_sem, Bool.not_false, Bool.not_true]
 obtain ⟨I, hI⟩ : ∃ I : Nat → FN → HN → Prop, ∀ m φ ζ, I m φ ζ ↔ ∃ i, m = n - i ∧ i ≤ n ∧ (φ 0 = .int .i64 n ∧ φ 1 = .int .i64 a ∧ φ 2 = .int .i64 b ∧ φ 10 = .int .i64 i ∧ φ 7 = .str (sB n a b i).length (codesL (sB n a b i)) ∧ φ 8 = .str (repB (eB a b) 0 i).length (codesL (repB (eB a b) 0 i)) ∧ φ 9 = .int .i64 (if b < i then 18 + 10 * b else 0)) := ⟨_, fun _ _ _ => Iff.rfl⟩
 refine wpN_loop I n ((hI _ _ _).2 ⟨0, rfl, Nat.zero_le _, rfl, rfl, rfl, rfl, by rw [sB_0 (by omega)]; rfl, rfl, by rw [if_neg (by omega)]; rfl⟩) ?_
 intro m φ ζ hi
 obtain ⟨i, hm, hi, p0, p1, p2, p10, p7, p8, p9⟩ := (hI _ _ _).1 hi
 by_cases hlt : i < n
 ·have sl := sB_len (a := a) (b := b) hlt
  have el : (repB (eB a b) 0 i).length = i * 9 := repB_len (s := 9) i 0 (fun _ _ _ => rfl)
  have r8 : repB (eB a b) 0 (i + 1) = repB (eB a b) 0 i ++ (nmB (kap a b i) ++ oneB) := by rw [repB_snoc, Nat.zero_add]; rfl
  by_cases hib : i = b
  ·have kb : kap a b i = a := if_pos hib
   by_cases hs : i + 1 < n
   ·subst hib
    simp -implicitDefEqProofs (disch := omega) only [go_sem, p0, p1, p2, p7, p8, p9, p10, repL_s, repL_z, setsL_c]
    exact ⟨n - (i + 1), by omega, (hI _ _ _).2 ⟨i + 1, rfl, hlt, by exact p0, by exact p1, by exact p2, rfl, (by rw [sB_s hs, kb]; exact e7s _ (by omega)), (by rw [r8, kb]; exact e8 _ (by omega)), (by rw [if_pos (by omega)]; exact congrArg (AV.int .i64) (by omega))⟩⟩
   ·subst hib
    simp -implicitDefEqProofs (disch := omega) only [go_sem, p0, p1, p2, p7, p8, p9, p10, repL_s, repL_z, setsL_c]
    exact ⟨n - (i + 1), by omega, (hI _ _ _).2 ⟨i + 1, rfl, hlt, by exact p0, by exact p1, by exact p2, rfl, (by rw [sB_e (show i + 1 = n by omega), kb]; exact e7e _ (by omega)), (by rw [r8, kb]; exact e8 _ (by omega)), (by rw [if_pos (by omega)]; exact congrArg (AV.int .i64) (by omega))⟩⟩
  ·have kb : kap a b i = i := if_neg hib
   have p9' : φ 9 = .int .i64 (if b < i + 1 then 18 + 10 * b else 0) := by
    rw [p9]
    by_cases q : b < i
    ·rw [if_pos q, if_pos (by omega)]
    ·rw [if_neg q, if_neg (by omega)]
   by_cases hs : i + 1 < n
   ·simp -implicitDefEqProofs (disch := omega) only [go_sem, p0, p1, p2, p7, p8, p9, p10, repL_s, repL_z, setsL_c]
    exact ⟨n - (i + 1), by omega, (hI _ _ _).2 ⟨i + 1, rfl, hlt, by exact p0, by exact p1, by exact p2, rfl, (by rw [sB_s hs, kb]; exact e7s _ (by omega)), (by rw [r8, kb]; exact e8 _ (by omega)), (by exact p9')⟩⟩
   ·simp -implicitDefEqProofs (disch := omega) only [go_sem, p0, p1, p2, p7, p8, p9, p10, repL_s, repL_z, setsL_c]
    exact ⟨n - (i + 1), by omega, (hI _ _ _).2 ⟨i + 1, rfl, hlt, by exact p0, by exact p1, by exact p2, rfl, (by rw [sB_e (show i + 1 = n by omega), kb]; exact e7e _ (by omega)), (by rw [r8, kb]; exact e8 _ (by omega)), (by exact p9')⟩⟩
 ·obtain rfl : i = n := by omega
  have sl : (sB i a b i).length = 10 * (i - 1) + 8 := by
   unfold sB
   rw [if_neg (by omega), List.length_append, repB_len (s := 10) (i - 1) 0 (fun _ _ _ => rfl)]
   show (i - 1) * 10 + 8 = _
   omega
  have el : (repB (eB a b) 0 i).length = i * 9 := repB_len (s := 9) i 0 (fun _ _ _ => rfl)
  have tx := e_text (sB i a b i) (repB (eB a b) 0 i)
  rw [two_text] at tx
  obtain ⟨es, ep⟩ := two_tree (n := i) (a := a) (b := b) (by omega) (by omega) (by omega)
  have ef : namesF (parseF (twoB i a b)).1 = some (18 + 10 * b) := by rw [ep]; exact two_fault (by omega) (by omega) (by omega)
  rw [if_pos (by omega)] at p9
  simp -implicitDefEqProofs (disch := omega) only [go_sem, p0, p1, p2, p7, p8, p9, p10]
  rw [tx]
  refine thenN_call (fault6_then U (by rw [two_len]; omega) fun η2 x2 => ?_)
  rw [ef]
  have e1 : (faultOf 8 (some (18 + 10 * b))).1 = 8 := rfl
  have e2 : (faultOf 8 (some (18 + 10 * b))).2 = 18 + 10 * b := rfl
  rw [e1, e2]
  simp -implicitDefEqProofs (disch := omega) only [go_sem, p9, bad_eq_t]
  done
end Go.Proofs.Ytpjmiopplfmcfaa
