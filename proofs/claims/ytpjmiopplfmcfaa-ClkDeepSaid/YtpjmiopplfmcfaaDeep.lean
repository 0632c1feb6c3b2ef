/- What is proved: names that hang on one another, read as they are written; their clocks. ClkDeep, walked. Conditions: as each theorem says. -/
import Derived.Test.YtpjmiopplfmcfaaPlain
import Derived.KernelRfl
import Derived.Test.YtpjmiopplfmcfaaClkB
import Derived.Test.YtpjmiopplfmcfaaTwo
set_option linter.unusedVariables false
set_option linter.unusedSimpArgs false
set_option linter.unusedSectionVars false
namespace Go.Plain
open Go.Eng
set_option autoImplicit false
set_option maxRecDepth 100000
def bB (k : Nat) : By := [98, UInt8.ofNat (97 + k)]
def onB : Nat → By
 | 0 => [99]
 | i + 1 => bB i
theorem b_all : ∀ k, k < 20 → ∀ c ∈ bB k, nameB c = true := by decide +kernel
theorem b_kept : ∀ k, k < 20 → keptS (sS (bB k)) = false := by decide +kernel
theorem on_inj : ∀ i, i < 21 → ∀ j, j < 21 → sS (onB i) = sS (onB j) → i = j := by decide +kernel
theorem on_x : ∀ i, i < 21 → sS (onB i) ≠ sX := by decide +kernel
theorem on_y : ∀ i, i < 21 → sS (onB i) ≠ sY := by decide +kernel
theorem on_0 : ∀ i, i < 21 → sS (onB i) ≠ (0, 0) := by decide +kernel
theorem b_is {k : Nat} (h : k < 20) : IsNm (bB k) := ⟨⟨_, _, rfl, rfl⟩, b_all k h, b_kept k h, Nat.le_of_ble_eq_true rfl⟩
theorem c_is : IsNm [99] := ⟨⟨_, _, rfl, rfl⟩, by decide +kernel, by kernel_rfl, Nat.le_of_ble_eq_true rfl⟩
theorem on_is : ∀ {i : Nat}, i < 21 → IsNm (onB i)
 | 0, _ => c_is
 | i + 1, h => b_is (by omega)
def preD : By := [110, 111, 100, 101, 32, 102, 40, 99, 58, 32, 98, 111, 111, 108, 59, 32, 120, 58, 32, 105, 110, 116, 41, 32, 114, 101, 116, 117, 114, 110, 115, 32, 40, 121, 58, 32, 105, 110, 116, 41, 59, 32, 118, 97, 114, 32]
def hangB : By := [58, 32, 98, 111, 111, 108, 32, 119, 104, 101, 110, 32]
def notS : By := [110, 111, 116, 32]
def semiB : By := [59, 32]
def isB : By := [32, 61, 32]
def whenB : By := [32, 119, 104, 101, 110, 32]
def letB : By := [108, 101, 116, 32]
def finB : By := [121, 32, 61, 32, 120, 59, 32, 116, 101, 108]
theorem cut_preD {a : Nat} {r : By} {l : List Wd} : cutT a (preD ++ r) l = cutT (a + 46) (r) (l ++ [kwd sNode a, nam sF (a + 5), sgn sLp (a + 6), nam sC (a + 7), sgn sColon (a + 8), kwd sBool (a + 10), sgn sSemi (a + 14), nam sX (a + 16), sgn sColon (a + 17), kwd sInt (a + 19), sgn sRp (a + 22), kwd sReturns (a + 24), sgn sLp (a + 32), nam sY (a + 33), sgn sColon (a + 34), kwd sInt (a + 36), sgn sRp (a + 39), sgn sSemi (a + 40), kwd sVar (a + 42)]) := by
 show cutT a (110 :: 111 :: 100 :: 101 :: 32 :: 102 :: 40 :: 99 :: 58 :: 32 :: 98 :: 111 :: 111 :: 108 :: 59 :: 32 :: 120 :: 58 :: 32 :: 105 :: 110 :: 116 :: 41 :: 32 :: 114 :: 101 :: 116 :: 117 :: 114 :: 110 :: 115 :: 32 :: 40 :: 121 :: 58 :: 32 :: 105 :: 110 :: 116 :: 41 :: 59 :: 32 :: 118 :: 97 :: 114 :: 32 :: (r)) l = _
 refine (cutN (x := [110, 111, 100, 101]) (a' := a + 4) (r := 32 :: 102 :: 40 :: 99 :: 58 :: 32 :: 98 :: 111 :: 111 :: 108 :: 59 :: 32 :: 120 :: 58 :: 32 :: 105 :: 110 :: 116 :: 41 :: 32 :: 114 :: 101 :: 116 :: 117 :: 114 :: 110 :: 115 :: 32 :: 40 :: 121 :: 58 :: 32 :: 105 :: 110 :: 116 :: 41 :: 59 :: 32 :: 118 :: 97 :: 114 :: 32 :: (r)) wd_node rfl rfl).trans ?_
 refine (cutS (a' := a + 5) (r := 102 :: 40 :: 99 :: 58 :: 32 :: 98 :: 111 :: 111 :: 108 :: 59 :: 32 :: 120 :: 58 :: 32 :: 105 :: 110 :: 116 :: 41 :: 32 :: 114 :: 101 :: 116 :: 117 :: 114 :: 110 :: 115 :: 32 :: 40 :: 121 :: 58 :: 32 :: 105 :: 110 :: 116 :: 41 :: 59 :: 32 :: 118 :: 97 :: 114 :: 32 :: (r)) rfl rfl).trans ?_
 refine (cutN (x := [102]) (a' := a + 6) (r := 40 :: 99 :: 58 :: 32 :: 98 :: 111 :: 111 :: 108 :: 59 :: 32 :: 120 :: 58 :: 32 :: 105 :: 110 :: 116 :: 41 :: 32 :: 114 :: 101 :: 116 :: 117 :: 114 :: 110 :: 115 :: 32 :: 40 :: 121 :: 58 :: 32 :: 105 :: 110 :: 116 :: 41 :: 59 :: 32 :: 118 :: 97 :: 114 :: 32 :: (r)) wd_f rfl rfl).trans ?_
 refine (cutG (c := 40) (t := sLp) (a' := a + 7) (r := 99 :: 58 :: 32 :: 98 :: 111 :: 111 :: 108 :: 59 :: 32 :: 120 :: 58 :: 32 :: 105 :: 110 :: 116 :: 41 :: 32 :: 114 :: 101 :: 116 :: 117 :: 114 :: 110 :: 115 :: 32 :: 40 :: 121 :: 58 :: 32 :: 105 :: 110 :: 116 :: 41 :: 59 :: 32 :: 118 :: 97 :: 114 :: 32 :: (r)) (by decide) (by kernel_rfl) rfl).trans ?_
 refine (cutN (x := [99]) (a' := a + 8) (r := 58 :: 32 :: 98 :: 111 :: 111 :: 108 :: 59 :: 32 :: 120 :: 58 :: 32 :: 105 :: 110 :: 116 :: 41 :: 32 :: 114 :: 101 :: 116 :: 117 :: 114 :: 110 :: 115 :: 32 :: 40 :: 121 :: 58 :: 32 :: 105 :: 110 :: 116 :: 41 :: 59 :: 32 :: 118 :: 97 :: 114 :: 32 :: (r)) wd_c rfl rfl).trans ?_
 refine (cutG (c := 58) (t := sColon) (a' := a + 9) (r := 32 :: 98 :: 111 :: 111 :: 108 :: 59 :: 32 :: 120 :: 58 :: 32 :: 105 :: 110 :: 116 :: 41 :: 32 :: 114 :: 101 :: 116 :: 117 :: 114 :: 110 :: 115 :: 32 :: 40 :: 121 :: 58 :: 32 :: 105 :: 110 :: 116 :: 41 :: 59 :: 32 :: 118 :: 97 :: 114 :: 32 :: (r)) (by decide) (by kernel_rfl) rfl).trans ?_
 refine (cutS (a' := a + 10) (r := 98 :: 111 :: 111 :: 108 :: 59 :: 32 :: 120 :: 58 :: 32 :: 105 :: 110 :: 116 :: 41 :: 32 :: 114 :: 101 :: 116 :: 117 :: 114 :: 110 :: 115 :: 32 :: 40 :: 121 :: 58 :: 32 :: 105 :: 110 :: 116 :: 41 :: 59 :: 32 :: 118 :: 97 :: 114 :: 32 :: (r)) rfl rfl).trans ?_
 refine (cutN (x := [98, 111, 111, 108]) (a' := a + 14) (r := 59 :: 32 :: 120 :: 58 :: 32 :: 105 :: 110 :: 116 :: 41 :: 32 :: 114 :: 101 :: 116 :: 117 :: 114 :: 110 :: 115 :: 32 :: 40 :: 121 :: 58 :: 32 :: 105 :: 110 :: 116 :: 41 :: 59 :: 32 :: 118 :: 97 :: 114 :: 32 :: (r)) wd_bool rfl rfl).trans ?_
 refine (cutG (c := 59) (t := sSemi) (a' := a + 15) (r := 32 :: 120 :: 58 :: 32 :: 105 :: 110 :: 116 :: 41 :: 32 :: 114 :: 101 :: 116 :: 117 :: 114 :: 110 :: 115 :: 32 :: 40 :: 121 :: 58 :: 32 :: 105 :: 110 :: 116 :: 41 :: 59 :: 32 :: 118 :: 97 :: 114 :: 32 :: (r)) (by decide) (by kernel_rfl) rfl).trans ?_
 refine (cutS (a' := a + 16) (r := 120 :: 58 :: 32 :: 105 :: 110 :: 116 :: 41 :: 32 :: 114 :: 101 :: 116 :: 117 :: 114 :: 110 :: 115 :: 32 :: 40 :: 121 :: 58 :: 32 :: 105 :: 110 :: 116 :: 41 :: 59 :: 32 :: 118 :: 97 :: 114 :: 32 :: (r)) rfl rfl).trans ?_
 refine (cutN (x := [120]) (a' := a + 17) (r := 58 :: 32 :: 105 :: 110 :: 116 :: 41 :: 32 :: 114 :: 101 :: 116 :: 117 :: 114 :: 110 :: 115 :: 32 :: 40 :: 121 :: 58 :: 32 :: 105 :: 110 :: 116 :: 41 :: 59 :: 32 :: 118 :: 97 :: 114 :: 32 :: (r)) wd_x rfl rfl).trans ?_
 refine (cutG (c := 58) (t := sColon) (a' := a + 18) (r := 32 :: 105 :: 110 :: 116 :: 41 :: 32 :: 114 :: 101 :: 116 :: 117 :: 114 :: 110 :: 115 :: 32 :: 40 :: 121 :: 58 :: 32 :: 105 :: 110 :: 116 :: 41 :: 59 :: 32 :: 118 :: 97 :: 114 :: 32 :: (r)) (by decide) (by kernel_rfl) rfl).trans ?_
 refine (cutS (a' := a + 19) (r := 105 :: 110 :: 116 :: 41 :: 32 :: 114 :: 101 :: 116 :: 117 :: 114 :: 110 :: 115 :: 32 :: 40 :: 121 :: 58 :: 32 :: 105 :: 110 :: 116 :: 41 :: 59 :: 32 :: 118 :: 97 :: 114 :: 32 :: (r)) rfl rfl).trans ?_
 refine (cutN (x := [105, 110, 116]) (a' := a + 22) (r := 41 :: 32 :: 114 :: 101 :: 116 :: 117 :: 114 :: 110 :: 115 :: 32 :: 40 :: 121 :: 58 :: 32 :: 105 :: 110 :: 116 :: 41 :: 59 :: 32 :: 118 :: 97 :: 114 :: 32 :: (r)) wd_int rfl rfl).trans ?_
 refine (cutG (c := 41) (t := sRp) (a' := a + 23) (r := 32 :: 114 :: 101 :: 116 :: 117 :: 114 :: 110 :: 115 :: 32 :: 40 :: 121 :: 58 :: 32 :: 105 :: 110 :: 116 :: 41 :: 59 :: 32 :: 118 :: 97 :: 114 :: 32 :: (r)) (by decide) (by kernel_rfl) rfl).trans ?_
 refine (cutS (a' := a + 24) (r := 114 :: 101 :: 116 :: 117 :: 114 :: 110 :: 115 :: 32 :: 40 :: 121 :: 58 :: 32 :: 105 :: 110 :: 116 :: 41 :: 59 :: 32 :: 118 :: 97 :: 114 :: 32 :: (r)) rfl rfl).trans ?_
 refine (cutN (x := [114, 101, 116, 117, 114, 110, 115]) (a' := a + 31) (r := 32 :: 40 :: 121 :: 58 :: 32 :: 105 :: 110 :: 116 :: 41 :: 59 :: 32 :: 118 :: 97 :: 114 :: 32 :: (r)) wd_returns rfl rfl).trans ?_
 refine (cutS (a' := a + 32) (r := 40 :: 121 :: 58 :: 32 :: 105 :: 110 :: 116 :: 41 :: 59 :: 32 :: 118 :: 97 :: 114 :: 32 :: (r)) rfl rfl).trans ?_
 refine (cutG (c := 40) (t := sLp) (a' := a + 33) (r := 121 :: 58 :: 32 :: 105 :: 110 :: 116 :: 41 :: 59 :: 32 :: 118 :: 97 :: 114 :: 32 :: (r)) (by decide) (by kernel_rfl) rfl).trans ?_
 refine (cutN (x := [121]) (a' := a + 34) (r := 58 :: 32 :: 105 :: 110 :: 116 :: 41 :: 59 :: 32 :: 118 :: 97 :: 114 :: 32 :: (r)) wd_y rfl rfl).trans ?_
 refine (cutG (c := 58) (t := sColon) (a' := a + 35) (r := 32 :: 105 :: 110 :: 116 :: 41 :: 59 :: 32 :: 118 :: 97 :: 114 :: 32 :: (r)) (by decide) (by kernel_rfl) rfl).trans ?_
 refine (cutS (a' := a + 36) (r := 105 :: 110 :: 116 :: 41 :: 59 :: 32 :: 118 :: 97 :: 114 :: 32 :: (r)) rfl rfl).trans ?_
 refine (cutN (x := [105, 110, 116]) (a' := a + 39) (r := 41 :: 59 :: 32 :: 118 :: 97 :: 114 :: 32 :: (r)) wd_int rfl rfl).trans ?_
 refine (cutG (c := 41) (t := sRp) (a' := a + 40) (r := 59 :: 32 :: 118 :: 97 :: 114 :: 32 :: (r)) (by decide) (by kernel_rfl) rfl).trans ?_
 refine (cutG (c := 59) (t := sSemi) (a' := a + 41) (r := 32 :: 118 :: 97 :: 114 :: 32 :: (r)) (by decide) (by kernel_rfl) rfl).trans ?_
 refine (cutS (a' := a + 42) (r := 118 :: 97 :: 114 :: 32 :: (r)) rfl rfl).trans ?_
 refine (cutN (x := [118, 97, 114]) (a' := a + 45) (r := 32 :: (r)) wd_var rfl rfl).trans ?_
 refine (cutS (a' := a + 46) (r := (r)) rfl rfl).trans ?_
 simp only [List.append_assoc, List.cons_append, List.nil_append]
 rfl
theorem cut_hang {a : Nat} {r : By} {l : List Wd} : cutT a (hangB ++ r) l = cutT (a + 12) (r) (l ++ [sgn sColon a, kwd sBool (a + 2), kwd sWhen (a + 7)]) := by
 show cutT a (58 :: 32 :: 98 :: 111 :: 111 :: 108 :: 32 :: 119 :: 104 :: 101 :: 110 :: 32 :: (r)) l = _
 refine (cutG (c := 58) (t := sColon) (a' := a + 1) (r := 32 :: 98 :: 111 :: 111 :: 108 :: 32 :: 119 :: 104 :: 101 :: 110 :: 32 :: (r)) (by decide) (by kernel_rfl) rfl).trans ?_
 refine (cutS (a' := a + 2) (r := 98 :: 111 :: 111 :: 108 :: 32 :: 119 :: 104 :: 101 :: 110 :: 32 :: (r)) rfl rfl).trans ?_
 refine (cutN (x := [98, 111, 111, 108]) (a' := a + 6) (r := 32 :: 119 :: 104 :: 101 :: 110 :: 32 :: (r)) wd_bool rfl rfl).trans ?_
 refine (cutS (a' := a + 7) (r := 119 :: 104 :: 101 :: 110 :: 32 :: (r)) rfl rfl).trans ?_
 refine (cutN (x := [119, 104, 101, 110]) (a' := a + 11) (r := 32 :: (r)) wd_when rfl rfl).trans ?_
 refine (cutS (a' := a + 12) (r := (r)) rfl rfl).trans ?_
 simp only [List.append_assoc, List.cons_append, List.nil_append]
 rfl
theorem cut_not {a : Nat} {r : By} {l : List Wd} : cutT a (notS ++ r) l = cutT (a + 4) (r) (l ++ [kwd sNot a]) := by
 show cutT a (110 :: 111 :: 116 :: 32 :: (r)) l = _
 refine (cutN (x := [110, 111, 116]) (a' := a + 3) (r := 32 :: (r)) wd_not rfl rfl).trans ?_
 refine (cutS (a' := a + 4) (r := (r)) rfl rfl).trans ?_
 rfl
theorem cut_semi {a : Nat} {r : By} {l : List Wd} : cutT a (semiB ++ r) l = cutT (a + 2) (r) (l ++ [sgn sSemi a]) := by
 show cutT a (59 :: 32 :: (r)) l = _
 refine (cutG (c := 59) (t := sSemi) (a' := a + 1) (r := 32 :: (r)) (by decide) (by kernel_rfl) rfl).trans ?_
 refine (cutS (a' := a + 2) (r := (r)) rfl rfl).trans ?_
 rfl
theorem cut_is {a : Nat} {r : By} {l : List Wd} : cutT a (isB ++ r) l = cutT (a + 3) (r) (l ++ [sgn sEq (a + 1)]) := by
 show cutT a (32 :: 61 :: 32 :: (r)) l = _
 refine (cutS (a' := a + 1) (r := 61 :: 32 :: (r)) rfl rfl).trans ?_
 refine (cutG (c := 61) (t := sEq) (a' := a + 2) (r := 32 :: (r)) (by decide) (by kernel_rfl) rfl).trans ?_
 refine (cutS (a' := a + 3) (r := (r)) rfl rfl).trans ?_
 rfl
theorem cut_when {a : Nat} {r : By} {l : List Wd} : cutT a (whenB ++ r) l = cutT (a + 6) (r) (l ++ [kwd sWhen (a + 1)]) := by
 show cutT a (32 :: 119 :: 104 :: 101 :: 110 :: 32 :: (r)) l = _
 refine (cutS (a' := a + 1) (r := 119 :: 104 :: 101 :: 110 :: 32 :: (r)) rfl rfl).trans ?_
 refine (cutN (x := [119, 104, 101, 110]) (a' := a + 5) (r := 32 :: (r)) wd_when rfl rfl).trans ?_
 refine (cutS (a' := a + 6) (r := (r)) rfl rfl).trans ?_
 rfl
theorem cut_let {a : Nat} {r : By} {l : List Wd} : cutT a (letB ++ r) l = cutT (a + 4) (r) (l ++ [kwd sLet a]) := by
 show cutT a (108 :: 101 :: 116 :: 32 :: (r)) l = _
 refine (cutN (x := [108, 101, 116]) (a' := a + 3) (r := 32 :: (r)) wd_let rfl rfl).trans ?_
 refine (cutS (a' := a + 4) (r := (r)) rfl rfl).trans ?_
 rfl
theorem cut_fin {a : Nat} {r : By} {l : List Wd} : cutT a (finB ++ []) l = cutT (a + 10) ([]) (l ++ [nam sY a, sgn sEq (a + 2), nam sX (a + 4), sgn sSemi (a + 5), kwd sTel (a + 7)]) := by
 show cutT a (121 :: 32 :: 61 :: 32 :: 120 :: 59 :: 32 :: 116 :: 101 :: 108 :: ([])) l = _
 refine (cutN (x := [121]) (a' := a + 1) (r := 32 :: 61 :: 32 :: 120 :: 59 :: 32 :: 116 :: 101 :: 108 :: ([])) wd_y rfl rfl).trans ?_
 refine (cutS (a' := a + 2) (r := 61 :: 32 :: 120 :: 59 :: 32 :: 116 :: 101 :: 108 :: ([])) rfl rfl).trans ?_
 refine (cutG (c := 61) (t := sEq) (a' := a + 3) (r := 32 :: 120 :: 59 :: 32 :: 116 :: 101 :: 108 :: ([])) (by decide) (by kernel_rfl) rfl).trans ?_
 refine (cutS (a' := a + 4) (r := 120 :: 59 :: 32 :: 116 :: 101 :: 108 :: ([])) rfl rfl).trans ?_
 refine (cutN (x := [120]) (a' := a + 5) (r := 59 :: 32 :: 116 :: 101 :: 108 :: ([])) wd_x rfl rfl).trans ?_
 refine (cutG (c := 59) (t := sSemi) (a' := a + 6) (r := 32 :: 116 :: 101 :: 108 :: ([])) (by decide) (by kernel_rfl) rfl).trans ?_
 refine (cutS (a' := a + 7) (r := 116 :: 101 :: 108 :: ([])) rfl rfl).trans ?_
 refine (cutN (x := [116, 101, 108]) (a' := a + 10) (r := ([])) wd_tel rfl rfl).trans ?_
 simp only [List.append_assoc, List.cons_append, List.nil_append]
 rfl
def ol : Nat → Nat
 | 0 => 1
 | _ + 1 => 2
theorem on_len : ∀ i, (onB i).length = ol i
 | 0 => rfl
 | _ + 1 => rfl
theorem ol_le : ∀ i, 1 ≤ ol i ∧ ol i ≤ 2
 | 0 => ⟨Nat.le_refl _, Nat.le_succ _⟩
 | _ + 1 => ⟨Nat.le_succ _, Nat.le_refl _⟩
def notB (b : Bool) : By := if b then notS else []
def nl (b : Bool) : Nat := if b then 4 else 0
def nn (b : Bool) : Nat := if b then 1 else 0
theorem not_len (b : Bool) : (notB b).length = nl b := by cases b <;> rfl
section
variable {nt : Nat → Bool}
def hB (nt : Nat → Bool) (i : Nat) : By := bB i ++ (hangB ++ (notB (nt i) ++ (onB i ++ semiB)))
def qB (nt : Nat → Bool) (i : Nat) : By := bB i ++ (isB ++ (onB i ++ (whenB ++ (notB (nt i) ++ (onB i ++ semiB)))))
def deepB (nt : Nat → Bool) (n : Nat) : By := preD ++ (repB (hB nt) 0 n ++ (letB ++ (repB (qB nt) 0 n ++ finB)))
def notW (b : Bool) (c : Nat) : List Wd := if b then [kwd sNot c] else []
noncomputable def hW (nt : Nat → Bool) (c i : Nat) : List Wd := [nam (sS (bB i)) c, sgn sColon (c + 2), kwd sBool (c + 4), kwd sWhen (c + 9)] ++ (notW (nt i) (c + 14) ++ [nam (sS (onB i)) (c + 14 + nl (nt i)), sgn sSemi (c + 14 + nl (nt i) + ol i)])
noncomputable def qW (nt : Nat → Bool) (c i : Nat) : List Wd := [nam (sS (bB i)) c, sgn sEq (c + 3), nam (sS (onB i)) (c + 5), kwd sWhen (c + 5 + ol i + 1)] ++ (notW (nt i) (c + 5 + ol i + 6) ++ [nam (sS (onB i)) (c + 5 + ol i + 6 + nl (nt i)), sgn sSemi (c + 5 + ol i + 6 + nl (nt i) + ol i)])
theorem span_hang {r : By} : spanL nameB (hangB ++ r) = 0 := rfl
theorem span_is {r : By} : spanL nameB (isB ++ r) = 0 := rfl
theorem span_when {r : By} : spanL nameB (whenB ++ r) = 0 := rfl
theorem span_semi {r : By} : spanL nameB (semiB ++ r) = 0 := rfl
theorem cut_notB (b : Bool) {a : Nat} {r : By} {l : List Wd} : cutT a (notB b ++ r) l = cutT (a + nl b) r (l ++ notW b a) := by
 cases b with
 | true => exact cut_not
 | false =>
  show cutT a r l = cutT a r (l ++ [])
  rw [List.append_nil]
theorem cut_h {i : Nat} (hi : i < 20) (a : Nat) (r : By) (l : List Wd) : cutT a (hB nt i ++ r) l = cutT (a + (16 + nl (nt i) + ol i)) r (l ++ hW nt a i) := by
 unfold hB
 simp only [List.append_assoc]
 rw [cutT_name (b_is hi) span_hang, cut_hang, cut_notB, cutT_name (on_is (by omega)) span_semi, cut_semi, on_len]
 rw [show a + (bB i).length + 12 = a + 14 from rfl, show a + 14 + nl (nt i) + ol i + 2 = a + (16 + nl (nt i) + ol i) by omega]
 unfold hW
 simp only [List.append_assoc, List.cons_append, List.nil_append]
 rfl
theorem cut_q {i : Nat} (hi : i < 20) (a : Nat) (r : By) (l : List Wd) : cutT a (qB nt i ++ r) l = cutT (a + (13 + nl (nt i) + 2 * ol i)) r (l ++ qW nt a i) := by
 unfold qB
 simp only [List.append_assoc]
 rw [cutT_name (b_is hi) span_is, cut_is, cutT_name (on_is (by omega)) span_when, cut_when, cut_notB, cutT_name (on_is (by omega)) span_semi, cut_semi, on_len]
 rw [show a + (bB i).length + 3 = a + 5 from rfl, show a + 5 + ol i + 6 + nl (nt i) + ol i + 2 = a + (13 + nl (nt i) + 2 * ol i) by omega]
 unfold qW
 simp only [List.append_assoc, List.cons_append, List.nil_append]
 rfl
noncomputable def rowH (nt : Nat → Bool) : Nat → Nat → Nat → List Wd
 | _, _, 0 => []
 | c, i, m + 1 => hW nt c i ++ rowH nt (c + (16 + nl (nt i) + ol i)) (i + 1) m
noncomputable def rowQ (nt : Nat → Bool) : Nat → Nat → Nat → List Wd
 | _, _, 0 => []
 | c, i, m + 1 => qW nt c i ++ rowQ nt (c + (13 + nl (nt i) + 2 * ol i)) (i + 1) m
theorem cut_rowH : ∀ (m a i : Nat) (r : By) (l : List Wd), i + m ≤ 20 → ∃ c, cutT a (repB (hB nt) i m ++ r) l = cutT c r (l ++ rowH nt a i m)
 | 0, a, i, r, l, _ => ⟨a, by rw [show rowH nt a i 0 = [] from rfl, List.append_nil]; rfl⟩
 | m + 1, a, i, r, l, h => by
  obtain ⟨c, e⟩ := cut_rowH m (a + (16 + nl (nt i) + ol i)) (i + 1) r (l ++ hW nt a i) (by omega)
  refine ⟨c, ?_⟩
  show cutT a ((hB nt i ++ repB (hB nt) (i + 1) m) ++ r) l = _
  rw [List.append_assoc, cut_h (by omega), e, List.append_assoc]; rfl
theorem cut_rowQ : ∀ (m a i : Nat) (r : By) (l : List Wd), i + m ≤ 20 → ∃ c, cutT a (repB (qB nt) i m ++ r) l = cutT c r (l ++ rowQ nt a i m)
 | 0, a, i, r, l, _ => ⟨a, by rw [show rowQ nt a i 0 = [] from rfl, List.append_nil]; rfl⟩
 | m + 1, a, i, r, l, h => by
  obtain ⟨c, e⟩ := cut_rowQ m (a + (13 + nl (nt i) + 2 * ol i)) (i + 1) r (l ++ qW nt a i) (by omega)
  refine ⟨c, ?_⟩
  show cutT a ((qB nt i ++ repB (qB nt) (i + 1) m) ++ r) l = _
  rw [List.append_assoc, cut_q (by omega), e, List.append_assoc]; rfl
theorem h_len (i : Nat) : (hB nt i).length ≤ 22 := by
 unfold hB
 have := ol_le i
 have : nl (nt i) ≤ 4 := by cases nt i <;> decide
 simp only [List.length_append, on_len, not_len]
 show 2 + (12 + (_ + (_ + 2))) ≤ 22
 omega
theorem q_len (i : Nat) : (qB nt i).length ≤ 21 := by
 unfold qB
 have := ol_le i
 have : nl (nt i) ≤ 4 := by cases nt i <;> decide
 simp only [List.length_append, on_len, not_len]
 show 2 + (3 + (_ + (6 + (_ + (_ + 2))))) ≤ 21
 omega
theorem rep_le {f : Nat → By} {s : Nat} (hf : ∀ i, (f i).length ≤ s) : ∀ m i, (repB f i m).length ≤ m * s
 | 0, i => Nat.zero_le _
 | m + 1, i => by
  show (f i ++ repB f (i + 1) m).length ≤ _
  have := hf i
  have := rep_le hf m (i + 1)
  rw [List.length_append, Nat.add_mul]; omega
theorem deep_len {n : Nat} (hn : n ≤ 20) : (deepB nt n).length ≤ 1000 := by
 unfold deepB
 have h1 := rep_le (f := hB nt) h_len n 0
 have h2 := rep_le (f := qB nt) q_len n 0
 simp only [List.length_append]
 show 46 + (_ + (4 + (_ + 10))) ≤ 1000
 omega
theorem rowH_len : ∀ m c i, m ≤ (rowH nt c i m).length
 | 0, _, _ => Nat.zero_le _
 | m + 1, c, i => by
  have := rowH_len m (c + (16 + nl (nt i) + ol i)) (i + 1)
  show m + 1 ≤ (hW nt c i ++ rowH nt _ (i + 1) m).length
  have : 1 ≤ (hW nt c i).length := Nat.succ_le_succ (Nat.zero_le _)
  rw [List.length_append]; omega
theorem rowQ_len : ∀ m c i, m ≤ (rowQ nt c i m).length
 | 0, _, _ => Nat.zero_le _
 | m + 1, c, i => by
  have := rowQ_len m (c + (13 + nl (nt i) + 2 * ol i)) (i + 1)
  show m + 1 ≤ (qW nt c i ++ rowQ nt _ (i + 1) m).length
  have : 1 ≤ (qW nt c i).length := Nat.succ_le_succ (Nat.zero_le _)
  rw [List.length_append]; omega
noncomputable def locsN (nt : Nat → Bool) : Nat → Nat → Nat → List Vr
 | _, _, 0 => []
 | c, i, m + 1 => ⟨sS (bB i), 1, sS (onB i), nt i, c⟩ :: locsN nt (c + (16 + nl (nt i) + ol i)) (i + 1) m
noncomputable def eqN (nt : Nat → Bool) (c i : Nat) : Eqn := ⟨sS (bB i), .mk sWhen (sS (onB i)) (if nt i then 0 else 1) (c + 5 + ol i + 1) [.mk sVar (sS (onB i)) 0 (c + 5) []], c⟩
noncomputable def eqsN (nt : Nat → Bool) : Nat → Nat → Nat → List Eqn
 | _, _, 0 => []
 | c, i, m + 1 => eqN nt c i :: eqsN nt (c + (13 + nl (nt i) + 2 * ol i)) (i + 1) m
variable {L : List Wd}
theorem not_yes {k q n a : Nat} (g : L.getD k W0 = kwd sNot a) : isP L sNot (pl k q n) = true ∧ takeP L sNot (pl k q n) = pl (k + 1) q n := by
 have : isP L sNot (pl k q n) = true := by rw [is_kwd g]; rfl
 refine ⟨this, ?_⟩
 unfold takeP
 rw [if_pos this]; rfl
theorem not_no {k q n a : Nat} {s : S} (g : L.getD k W0 = nam s a) : isP L sNot (pl k q n) = false ∧ takeP L sNot (pl k q n) = pl k q n := by
 have : isP L sNot (pl k q n) = false := is_nam g
 refine ⟨this, ?_⟩
 unfold takeP
 rw [if_neg (by rw [this]; decide)]
theorem clock_read {k c i q n : Nat} {r : List Wd} (h : L.drop k = hW nt c i ++ r) (hn : n < 64) :
  clockF L (declF L (pl k q n)) = ([⟨sS (bB i), 1, sS (onB i), nt i, c⟩], pl (k + 5 + nn (nt i)) q (n + 1)) ∧ (∃ a, L.getD (k + 5 + nn (nt i)) W0 = sgn sSemi a) ∧ L.drop (k + 6 + nn (nt i)) = r := by
 unfold hW at h
 cases hb : nt i with
 | true =>
  rw [hb] at h
  have h : L.drop k = nam (sS (bB i)) c :: sgn sColon (c + 2) :: kwd sBool (c + 4) :: kwd sWhen (c + 9) :: kwd sNot (c + 14) :: nam (sS (onB i)) (c + 14 + 4) :: sgn sSemi (c + 14 + 4 + ol i) :: r := h
  have e1 := decl_one (L := L) (q := q) (n := n) true (gw0 h) (gw h 1) (gw h 2) (len_pos h) hn
  obtain ⟨n1, n2⟩ := not_yes (L := L) (q := q) (n := n + 1) (gw h 4)
  refine ⟨?_, ⟨_, gw h 6⟩, dw (ws := [_, _, _, _, _, _, _]) h⟩
  rw [e1]
  unfold clockF
  dsimp only
  rw [is_kwd (gw h 3), decide_eq_true rfl, if_pos rfl, show adv (pl (k + 3) q (n + 1)) = pl (k + 4) q (n + 1) from rfl, n1, n2, name_nam (gw h 5)]
  rfl
 | false =>
  rw [hb] at h
  have h : L.drop k = nam (sS (bB i)) c :: sgn sColon (c + 2) :: kwd sBool (c + 4) :: kwd sWhen (c + 9) :: nam (sS (onB i)) (c + 14 + 0) :: sgn sSemi (c + 14 + 0 + ol i) :: r := h
  have e1 := decl_one (L := L) (q := q) (n := n) true (gw0 h) (gw h 1) (gw h 2) (len_pos h) hn
  obtain ⟨n1, n2⟩ := not_no (L := L) (q := q) (n := n + 1) (gw h 4)
  refine ⟨?_, ⟨_, gw h 5⟩, dw (ws := [_, _, _, _, _, _]) h⟩
  rw [e1]
  unfold clockF
  dsimp only
  rw [is_kwd (gw h 3), decide_eq_true rfl, if_pos rfl, show adv (pl (k + 3) q (n + 1)) = pl (k + 4) q (n + 1) from rfl, n1, n2, name_nam (gw h 4)]
  rfl
theorem loc_read : ∀ (m k q n c i fu a1 : Nat) (l : List Vr) (r : List Wd), L.drop k = rowH nt c i (m + 1) ++ (kwd sLet a1 :: r) → n + m < 64 → m + 1 ≤ fu →
  ∃ k' a2, localsL L fu l (pl k q n) = (l ++ locsN nt c i (m + 1), pl k' q (n + m + 1)) ∧ L.getD k' W0 = sgn sSemi a2 ∧ L.drop (k' + 1) = kwd sLet a1 :: r
 | m, k, q, n, c, i, 0, a1, l, r, h, hn, hf => absurd hf (by omega)
 | 0, k, q, n, c, i, fu + 1, a1, l, r, h, hn, hf => by
  have h : L.drop k = (hW nt c i ++ []) ++ (kwd sLet a1 :: r) := h
  rw [List.append_nil] at h
  obtain ⟨e1, ⟨a2, g2⟩, h2⟩ := clock_read (q := q) (n := n) h (by omega)
  have h2 : L.drop (k + 5 + nn (nt i) + 1) = kwd sLet a1 :: r := by rw [show k + 5 + nn (nt i) + 1 = k + 6 + nn (nt i) by omega]; exact h2
  refine ⟨_, a2, ?_, g2, h2⟩
  unfold localsL
  rw [if_pos rfl]
  dsimp only
  rw [e1]
  dsimp only
  rw [if_neg]
  ·rfl
  ·rintro ⟨_, g⟩
   have : wd L (adv (pl (k + 5 + nn (nt i)) q (n + 1))) = kwd sLet a1 := gw0 h2
   rw [this] at g
   cases g
 | m + 1, k, q, n, c, i, fu + 1, a1, l, r, h, hn, hf => by
  have h : L.drop k = (hW nt c i ++ rowH nt (c + (16 + nl (nt i) + ol i)) (i + 1) (m + 1)) ++ (kwd sLet a1 :: r) := h
  rw [List.append_assoc] at h
  obtain ⟨e1, ⟨a2, g2⟩, h2⟩ := clock_read (q := q) (n := n) h (by omega)
  have h2 : L.drop (k + 5 + nn (nt i) + 1) = rowH nt (c + (16 + nl (nt i) + ol i)) (i + 1) (m + 1) ++ (kwd sLet a1 :: r) := by rw [show k + 5 + nn (nt i) + 1 = k + 6 + nn (nt i) by omega]; exact h2
  have g3 : L.getD (k + 5 + nn (nt i) + 1) W0 = nam (sS (bB (i + 1))) (c + (16 + nl (nt i) + ol i)) := gw0 h2
  obtain ⟨k', a3, e3, g4, h4⟩ := loc_read m (k + 5 + nn (nt i) + 1) q (n + 1) (c + (16 + nl (nt i) + ol i)) (i + 1) fu a1 (l ++ [⟨sS (bB i), 1, sS (onB i), nt i, c⟩]) r h2 (by omega) (by omega)
  refine ⟨k', a3, ?_, g4, h4⟩
  conv => lhs; unfold localsL
  rw [if_pos rfl]
  dsimp only
  rw [e1]
  dsimp only
  rw [if_pos]
  ·show localsL L fu _ (pl (k + 5 + nn (nt i) + 1) q (n + 1)) = _
   rw [e3, List.append_assoc, show n + 1 + m + 1 = n + (m + 1) + 1 by omega]; rfl
  ·refine ⟨by rw [is_sgn g2]; rfl, ?_⟩
   have : wd L (adv (pl (k + 5 + nn (nt i)) q (n + 1))) = _ := g3
   rw [this]; rfl
theorem when_read {k c i n : Nat} {r : List Wd} {G : Option Fns} (h : L.drop k = qW nt c i ++ r) : ∃ q' a, whenF L G (pl (k + 2) 0 n) = ((eqN nt c i).e, pl (k + 5 + nn (nt i)) q' n) ∧ L.getD (k + 5 + nn (nt i)) W0 = sgn sSemi a ∧ L.drop (k + 6 + nn (nt i)) = r := by
 obtain ⟨fu, hfu⟩ := len_pos (ws := (qW nt c i).tail ++ r) (w := nam (sS (bB i)) c) h
 unfold qW at h
 unfold eqN
 cases hb : nt i with
 | true =>
  rw [hb] at h
  have h : L.drop k = nam (sS (bB i)) c :: sgn sEq (c + 3) :: nam (sS (onB i)) (c + 5) :: kwd sWhen (c + 5 + ol i + 1) :: kwd sNot (c + 5 + ol i + 6) :: nam (sS (onB i)) (c + 5 + ol i + 6 + 4) :: sgn sSemi (c + 5 + ol i + 6 + 4 + ol i) :: r := h
  refine ⟨2, _, ?_, gw h 6, dw (ws := [_, _, _, _, _, _, _]) h⟩
  have e1 : unF L G (pl (k + 2) 0 n) = (.mk sVar (sS (onB i)) 0 (c + 5) [], pl (k + 3) 1 n) := (un_prim (noun_nam (gw h 2))).trans (prim_var (gw h 2) (by decide) (by rw [is_kwd (gw h 3)]; rfl))
  obtain ⟨n1, n2⟩ := not_yes (L := L) (q := 2) (n := n) (gw h 4)
  have e2 : whenS L (pl (k + 3) 1 n) = ((0, sS (onB i)), pl (k + 6) 2 n) := by
   unfold whenS
   rw [eat_pl (by decide) (by rw [is_kwd (gw h 3)]; rfl)]
   dsimp only
   rw [n1, n2, name_nam (gw h 5)]; rfl
  unfold whenF
  rw [e1, hfu]
  unfold whenL
  dsimp only
  rw [is_kwd (gw h 3), decide_eq_true rfl, if_pos rfl, e2, wd_pl (gw h 3)]
  exact whenL_stop (by rw [is_sgn (gw h 6)]; rfl) _
 | false =>
  rw [hb] at h
  have h : L.drop k = nam (sS (bB i)) c :: sgn sEq (c + 3) :: nam (sS (onB i)) (c + 5) :: kwd sWhen (c + 5 + ol i + 1) :: nam (sS (onB i)) (c + 5 + ol i + 6 + 0) :: sgn sSemi (c + 5 + ol i + 6 + 0 + ol i) :: r := h
  refine ⟨2, _, ?_, gw h 5, dw (ws := [_, _, _, _, _, _]) h⟩
  have e1 : unF L G (pl (k + 2) 0 n) = (.mk sVar (sS (onB i)) 0 (c + 5) [], pl (k + 3) 1 n) := (un_prim (noun_nam (gw h 2))).trans (prim_var (gw h 2) (by decide) (by rw [is_kwd (gw h 3)]; rfl))
  obtain ⟨n1, n2⟩ := not_no (L := L) (q := 2) (n := n) (gw h 4)
  have e2 : whenS L (pl (k + 3) 1 n) = ((1, sS (onB i)), pl (k + 5) 2 n) := by
   unfold whenS
   rw [eat_pl (by decide) (by rw [is_kwd (gw h 3)]; rfl)]
   dsimp only
   rw [n1, n2, name_nam (gw h 4)]; rfl
  unfold whenF
  rw [e1, hfu]
  unfold whenL
  dsimp only
  rw [is_kwd (gw h 3), decide_eq_true rfl, if_pos rfl, e2, wd_pl (gw h 3)]
  exact whenL_stop (by rw [is_sgn (gw h 5)]; rfl) _
theorem eq_read {k c i q n : Nat} {r : List Wd} (h : L.drop k = qW nt c i ++ r) : ∃ q', eqF L (pl k q n) = (eqN nt c i, pl (k + 6 + nn (nt i)) q' n) ∧ L.drop (k + 6 + nn (nt i)) = r := by
 obtain ⟨q', a, e1, g1, h1⟩ := when_read (n := n) (G := lvl L 29) h
 have g0 : L.getD k W0 = nam (sS (bB i)) c := gw0 (ws := (qW nt c i).tail ++ r) h
 have ge : L.getD (k + 1) W0 = sgn sEq (c + 3) := by
  have := gw h 1
  rw [this]; rfl
 refine ⟨q', ?_, h1⟩
 have e2 : exprF L (lvl L 30) (pl (k + 2) 0 n) = ((eqN nt c i).e, pl (k + 5 + nn (nt i)) q' n) := arrow_fby (fby_stop e1 (by rw [is_sgn g1]; rfl)) (calm_sgn g1 (by decide))
 have := eq_at (L := L) (q := q) g0 ge e2 g1
 rw [this, show k + 5 + nn (nt i) + 1 = k + 6 + nn (nt i) by omega]; rfl
theorem eqs_read : ∀ (m k q n c i fu : Nat) (l : List Eqn) (r : List Wd), L.drop k = rowQ nt c i m ++ r → ∃ k' q', eqsL L (fu + m) l (pl k q n) = eqsL L fu (l ++ eqsN nt c i m) (pl k' q' n) ∧ L.drop k' = r
 | 0, k, q, n, c, i, fu, l, r, h => ⟨k, q, by rw [show eqsN nt c i 0 = [] from rfl, List.append_nil]; rfl, h⟩
 | m + 1, k, q, n, c, i, fu, l, r, h => by
  have h : L.drop k = (qW nt c i ++ rowQ nt (c + (13 + nl (nt i) + 2 * ol i)) (i + 1) m) ++ r := h
  rw [List.append_assoc] at h
  obtain ⟨q', e1, h1⟩ := eq_read (q := q) (n := n) h
  have g0 : L.getD k W0 = nam (sS (bB i)) c := gw0 (ws := (qW nt c i).tail ++ (rowQ nt (c + (13 + nl (nt i) + 2 * ol i)) (i + 1) m ++ r)) h
  obtain ⟨k2, q2, e2, h2⟩ := eqs_read m (k + 6 + nn (nt i)) q' n _ (i + 1) fu (l ++ [eqN nt c i]) r h1
  refine ⟨k2, q2, ?_, h2⟩
  rw [← Nat.add_assoc, eqs_s g0 e1, e2, List.append_assoc]; rfl
noncomputable def deepN (nt : Nat → Bool) (c1 c2 ax ay n : Nat) : Nd := ⟨sF, [⟨sC, 1, (0, 0), false, 7⟩, ⟨sX, 2, (0, 0), false, 16⟩], [⟨sY, 2, (0, 0), false, 33⟩], locsN nt c1 0 n, eqsN nt c2 0 n ++ [⟨sY, .mk sVar sX 0 ax [], ay⟩], 0⟩
theorem deep_tree {n : Nat} (h0 : 0 < n) (hn : n ≤ 20) : ∃ c1 c2 ax ay, parseF (deepB nt n) = ([deepN nt c1 c2 ax ay n], 0, 0) := by
 have hl := deep_len (nt := nt) hn
 unfold parseF
 rw [cutF_T (by omega)]
 obtain ⟨c1, e1⟩ := cut_rowH (nt := nt) n 46 0 (letB ++ (repB (qB nt) 0 n ++ finB)) ([kwd sNode 0, nam sF 5, sgn sLp 6, nam sC 7, sgn sColon 8, kwd sBool 10, sgn sSemi 14, nam sX 16, sgn sColon 17, kwd sInt 19, sgn sRp 22, kwd sReturns 24, sgn sLp 32, nam sY 33, sgn sColon 34, kwd sInt 36, sgn sRp 39, sgn sSemi 40, kwd sVar 42]) (by omega)
 obtain ⟨c2, e2⟩ := cut_rowQ (nt := nt) n (c1 + 4) 0 finB ([kwd sNode 0, nam sF 5, sgn sLp 6, nam sC 7, sgn sColon 8, kwd sBool 10, sgn sSemi 14, nam sX 16, sgn sColon 17, kwd sInt 19, sgn sRp 22, kwd sReturns 24, sgn sLp 32, nam sY 33, sgn sColon 34, kwd sInt 36, sgn sRp 39, sgn sSemi 40, kwd sVar 42] ++ rowH nt 46 0 n ++ [kwd sLet c1]) (by omega)
 have e : cutT 0 (deepB nt n) [] = ([kwd sNode 0, nam sF 5, sgn sLp 6, nam sC 7, sgn sColon 8, kwd sBool 10, sgn sSemi 14, nam sX 16, sgn sColon 17, kwd sInt 19, sgn sRp 22, kwd sReturns 24, sgn sLp 32, nam sY 33, sgn sColon 34, kwd sInt 36, sgn sRp 39, sgn sSemi 40, kwd sVar 42] ++ (rowH nt 46 0 n ++ (kwd sLet c1 :: (rowQ nt (c1 + 4) 0 n ++ [nam sY c2, sgn sEq (c2 + 2), nam sX (c2 + 4), sgn sSemi (c2 + 5), kwd sTel (c2 + 7), endW (c2 + 10)]))), 0, 0) := by
  unfold deepB
  rw [cut_preD, List.nil_append, show 0 + 46 = 46 from rfl]
  refine e1.trans ?_
  rw [cut_let, e2, ← List.append_nil finB, cut_fin (r := []), cutT_end]
  simp only [List.append_assoc, List.cons_append, List.nil_append]
 rw [e, if_pos rfl]
 have lH := rowH_len (nt := nt) n 46 0
 have lQ := rowQ_len (nt := nt) n (c1 + 4) 0
 generalize hL : [kwd sNode 0, nam sF 5, sgn sLp 6, nam sC 7, sgn sColon 8, kwd sBool 10, sgn sSemi 14, nam sX 16, sgn sColon 17, kwd sInt 19, sgn sRp 22, kwd sReturns 24, sgn sLp 32, nam sY 33, sgn sColon 34, kwd sInt 36, sgn sRp 39, sgn sSemi 40, kwd sVar 42] ++ (rowH nt 46 0 n ++ (kwd sLet c1 :: (rowQ nt (c1 + 4) 0 n ++ [nam sY c2, sgn sEq (c2 + 2), nam sX (c2 + 4), sgn sSemi (c2 + 5), kwd sTel (c2 + 7), endW (c2 + 10)]))) = L
 have hlen : 2 * n + 1 ≤ L.length := by
  rw [← hL]
  simp only [List.length_append, List.length_cons]
  omega
 have h : L.drop 0 = kwd sNode 0 :: nam sF 5 :: sgn sLp 6 :: nam sC 7 :: sgn sColon 8 :: kwd sBool 10 :: sgn sSemi 14 :: nam sX 16 :: sgn sColon 17 :: kwd sInt 19 :: sgn sRp 22 :: kwd sReturns 24 :: sgn sLp 32 :: nam sY 33 :: sgn sColon 34 :: kwd sInt 36 :: sgn sRp 39 :: sgn sSemi 40 :: kwd sVar 42 :: (rowH nt 46 0 n ++ (kwd sLet c1 :: (rowQ nt (c1 + 4) 0 n ++ [nam sY c2, sgn sEq (c2 + 2), nam sX (c2 + 4), sgn sSemi (c2 + 5), kwd sTel (c2 + 7), endW (c2 + 10)]))) := by rw [← hL]; rfl
 have g : ∀ i, L.getD (0 + i) W0 = _ := gw h
 have h19 : L.drop 19 = rowH nt 46 0 n ++ (kwd sLet c1 :: (rowQ nt (c1 + 4) 0 n ++ [nam sY c2, sgn sEq (c2 + 2), nam sX (c2 + 4), sgn sSemi (c2 + 5), kwd sTel (c2 + 7), endW (c2 + 10)])) := dw (ws := [_, _, _, _, _, _, _, _, _, _, _, _, _, _, _, _, _, _, _]) h
 obtain ⟨m, rfl⟩ : ∃ m, n = m + 1 := ⟨n - 1, by omega⟩
 obtain ⟨fu, hfu⟩ : ∃ fu, L.length = fu + 1 := ⟨L.length - 1, by omega⟩
 have hp := len_pos h
 have d1 : declsF L (pl 3 0 0) = ([⟨sC, 1, (0, 0), false, 7⟩, ⟨sX, 2, (0, 0), false, 16⟩], pl 10 0 2) := by
  refine decls_of (g 3) ?_
  rw [decl_one (L := L) true (g 3) (g 4) (g 5) hp (by decide), hfu, decls_s (k := 6) (g 6) (decl_one (L := L) false (g 7) (g 8) (g 9) hp (by decide)), decls_end (g 10)]; rfl
 have d2 : declsF L (pl 13 0 2) = ([⟨sY, 2, (0, 0), false, 33⟩], pl 16 0 3) := by
  refine decls_of (g 13) ?_
  rw [decl_one (L := L) false (g 13) (g 14) (g 15) hp (by decide), decls_end (g 16)]; rfl
 obtain ⟨k3, a3, e3, g3, h3⟩ := loc_read (L := L) m 19 0 3 46 0 L.length c1 [] _ h19 (by omega) (by omega)
 have d3 : varsF L (pl 18 0 3) = (locsN nt 46 0 (m + 1), pl (k3 + 1) 0 (3 + m + 1)) := by
  unfold varsF
  rw [is_kwd (g 18), decide_eq_true rfl, if_pos rfl, show adv (pl 18 0 3) = pl 19 0 3 from rfl]
  have : localsF L (pl 19 0 3) = localsL L L.length [] (pl 19 0 3) := by
   unfold localsF
   rw [if_neg]
   have g19 : L.getD 19 W0 = nam (sS (bB 0)) 46 := gw0 h19
   rw [is_nam g19]; decide
  rw [this, e3]
  dsimp only
  rw [want_sgn g3]; rfl
 have h4 : L.drop (k3 + 2) = rowQ nt (c1 + 4) 0 (m + 1) ++ [nam sY c2, sgn sEq (c2 + 2), nam sX (c2 + 4), sgn sSemi (c2 + 5), kwd sTel (c2 + 7), endW (c2 + 10)] := dw (ws := [_]) h3
 obtain ⟨f4, hf4⟩ : ∃ f4, L.length = f4 + 1 + (m + 1) := ⟨L.length - 1 - (m + 1), by omega⟩
 obtain ⟨k4, q4, e4, h4'⟩ := eqs_read (L := L) (m + 1) (k3 + 2) 0 (3 + m + 1) (c1 + 4) 0 (f4 + 1) [] _ h4
 have e5 : exprF L (lvl L 30) (pl (k4 + 2) 0 (3 + m + 1)) = (.mk sVar sX 0 (c2 + 4) [], pl (k4 + 3) 1 (3 + m + 1)) :=
  arrow_atom (prim_var (gw h4' 2) (by decide) (by rw [is_sgn (gw h4' 3)]; rfl)) (noun_nam (gw h4' 2)) (calm_sgn (gw h4' 3) (by decide))
 have e6 := eq_at (L := L) (q := q4) (gw0 h4') (gw h4' 1) e5 (gw h4' 3)
 have e7 : eqsL L L.length [] (pl (k3 + 1 + 1) 0 (3 + m + 1)) = (eqsN nt (c1 + 4) 0 (m + 1) ++ [⟨sY, .mk sVar sX 0 (c2 + 4) [], c2⟩], pl (k4 + 4) 1 (3 + m + 1)) := by
  rw [hf4, e4, eqs_s (gw0 h4') e6, eqs_end (gw h4' 4)]; rfl
 have nd := node_at (L := L) (k := 0) (q := 0) (n := 0) (k1 := 10) (k2 := 16) (k3 := k3 + 1) (k4 := k4 + 4) (k5 := k4 + 5) (n1 := 2) (n2 := 3) (n3 := 3 + m + 1) (g 0) (g 1) (g 2) d1 (g 10) (g 11) (g 12) d2 (g 16) (g 17) d3 (gw0 h3) e7 (gw h4' 4) (by
  unfold takeP
  rw [is_end (gw h4' 5)]; rfl)
 refine ⟨46, c1 + 4, c2 + 4, c2, ?_⟩
 unfold treeF
 rw [show (⟨0, 0, 0, 0, 0⟩ : PS) = pl 0 0 0 from rfl, nodes_s (by decide) (.inl rfl) nd, nodes_end (by exact Nat.succ_ne_zero 0) (by rw [gw h4' 5]; rfl)]
 dsimp only
 rw [if_pos rfl]; rfl
theorem loc_find (hnt : True) : ∀ (m c i k : Nat), i ≤ k → k < i + m → i + m ≤ 20 → ∃ c', (locsN nt c i m).find? (fun v => decide (v.nm = sS (bB k))) = some ⟨sS (bB k), 1, sS (onB k), nt k, c'⟩
 | 0, c, i, k, h1, h2, h3 => absurd h2 (by omega)
 | m + 1, c, i, k, h1, h2, h3 => by
  by_cases e : i = k
  ·subst e
   exact ⟨c, List.find?_cons_of_pos (decide_eq_true rfl)⟩
  ·obtain ⟨c', h⟩ := loc_find hnt m (c + (16 + nl (nt i) + ol i)) (i + 1) k (by omega) (by omega) (by omega)
   refine ⟨c', ?_⟩
   show (List.find? _ (_ :: _)) = _
   rw [List.find?_cons_of_neg, h]
   intro g
   have g := of_decide_eq_true g
   have := on_inj (i + 1) (by omega) (k + 1) (by omega) g
   omega
noncomputable def downL (nt : Nat → Bool) : Nat → List Stp
 | 0 => []
 | i + 1 => (sS (onB i), nt i) :: downL nt i
section
variable {c1 c2 ax ay n : Nat}
theorem deep_find {k : Nat} (hk : k < n) (hn : n ≤ 20) : ∃ c', findV (deepN nt c1 c2 ax ay n) (sS (bB k)) = some ⟨sS (bB k), 1, sS (onB k), nt k, c'⟩ := by
 obtain ⟨c', h⟩ := loc_find (nt := nt) trivial n c1 0 k (by omega) (by omega) (by omega)
 refine ⟨c', ?_⟩
 have q1 : sC ≠ sS (bB k) := fun g => by
  have := on_inj 0 (by omega) (k + 1) (by omega) g
  omega
 have q2 : sX ≠ sS (bB k) := fun g => on_x (k + 1) (by omega) g.symm
 have q3 : sY ≠ sS (bB k) := fun g => on_y (k + 1) (by omega) g.symm
 show List.find? _ (_ :: _ :: _ :: locsN nt c1 0 n) = _
 rw [List.find?_cons_of_neg (by exact fun g => q1 (of_decide_eq_true g)), List.find?_cons_of_neg (by exact fun g => q2 (of_decide_eq_true g)), List.find?_cons_of_neg (by exact fun g => q3 (of_decide_eq_true g)), h]
theorem deep_c : findV (deepN nt c1 c2 ax ay n) sC = some ⟨sC, 1, (0, 0), false, 7⟩ := rfl
theorem deep_x : findV (deepN nt c1 c2 ax ay n) sX = some ⟨sX, 2, (0, 0), false, 16⟩ := rfl
theorem deep_y : findV (deepN nt c1 c2 ax ay n) sY = some ⟨sY, 2, (0, 0), false, 33⟩ := rfl
theorem deep_of (hn : n ≤ 20) : ∀ (k i : Nat), i ≤ k → i ≤ n → ofL (deepN nt c1 c2 ax ay n) k (sS (onB i)) = downL nt i
 | 0, i, h, _ => by
  obtain rfl : i = 0 := by omega
  rfl
 | k + 1, 0, _, _ => by
  unfold ofL
  rw [show sS (onB 0) = sC from rfl, deep_c]; rfl
 | k + 1, i + 1, h, h2 => by
  obtain ⟨c', e⟩ := deep_find (nt := nt) (c1 := c1) (c2 := c2) (ax := ax) (ay := ay) (k := i) (n := n) (by omega) hn
  unfold ofL
  rw [show sS (onB (i + 1)) = sS (bB i) from rfl, e]
  dsimp only
  rw [if_neg (on_0 i (by omega)), deep_of hn k i (by omega) (by omega)]; rfl
theorem locsN_len : ∀ m c i, (locsN nt c i m).length = m
 | 0, _, _ => rfl
 | m + 1, c, i => congrArg (· + 1) (locsN_len m _ (i + 1))
theorem deep_clk (hn : n ≤ 20) {i : Nat} (hi : i ≤ n) : clkOf (deepN nt c1 c2 ax ay n) (sS (onB i)) = (downL nt i).reverse := by
 unfold clkOf
 rw [show (deepN nt c1 c2 ax ay n).locs.length = n from locsN_len n c1 0, deep_of hn n i hi hi]
theorem deep_clx (h0 : 0 < n) : clkOf (deepN nt c1 c2 ax ay n) sX = [] := by
 unfold clkOf
 rw [show (deepN nt c1 c2 ax ay n).locs.length = n from locsN_len n c1 0]
 obtain ⟨m, rfl⟩ : ∃ m, n = m + 1 := ⟨n - 1, by omega⟩
 unfold ofL
 rw [deep_x]; rfl
theorem deep_cly (h0 : 0 < n) : clkOf (deepN nt c1 c2 ax ay n) sY = [] := by
 unfold clkOf
 rw [show (deepN nt c1 c2 ax ay n).locs.length = n from locsN_len n c1 0]
 obtain ⟨m, rfl⟩ : ∃ m, n = m + 1 := ⟨n - 1, by omega⟩
 unfold ofL
 rw [deep_y]; rfl
theorem deep_expr (hn : n ≤ 20) {i c : Nat} (hi : i < n) : exprK (deepN nt c1 c2 ax ay n) (eqN nt c i).e = .inr ((downL nt (i + 1)).reverse, false) := by
 have hc := deep_clk (nt := nt) (c1 := c1) (c2 := c2) (ax := ax) (ay := ay) hn (i := i) (by omega)
 generalize deepN nt c1 c2 ax ay n = d at *
 have ev : exprK d (.mk sVar (sS (onB i)) 0 (c + 5) []) = .inr ((downL nt i).reverse, false) := by
  unfold exprK exprKs
  dsimp only
  have : ownK d sVar (sS (onB i)) 0 [] = ((clkOf d (sS (onB i)), false), true) := by
   unfold ownK
   rw [if_neg (by decide), if_pos rfl]
  rw [this, if_pos rfl, hc]
 have es : exprKs d [.mk sVar (sS (onB i)) 0 (c + 5) []] = .inr [((downL nt i).reverse, false)] := by
  unfold exprKs
  rw [ev]
  dsimp only
  unfold exprKs
  rfl
 unfold eqN
 dsimp only
 unfold exprK
 rw [es]
 dsimp only
 have : ownK d sWhen (sS (onB i)) (if nt i then 0 else 1) [((downL nt i).reverse, false)] = (((downL nt (i + 1)).reverse, false), true) := by
  unfold ownK
  rw [if_neg (by decide), if_neg (by decide), if_pos rfl, hc]
  unfold stepK fit1 fitsK
  have e0 : decide ((if nt i = true then 0 else 1) = 0) = nt i := by cases nt i <;> rfl
  rw [e0]
  show (((downL nt i).reverse ++ [(sS (onB i), nt i)], false), (false || decide (_ = _))) = _
  rw [decide_eq_true rfl]
  show _ = ((((sS (onB i), nt i) :: downL nt i).reverse, false), true)
  rw [List.reverse_cons]; rfl
 rw [this, if_pos rfl]
theorem deep_eqs (hn : n ≤ 20) {r : List Eqn} : ∀ (m c i : Nat), i + m ≤ n → eqsK (deepN nt c1 c2 ax ay n) (eqsN nt c i m ++ r) = eqsK (deepN nt c1 c2 ax ay n) r
 | 0, c, i, _ => rfl
 | m + 1, c, i, h => by
  show (match exprK (deepN nt c1 c2 ax ay n) (eqN nt c i).e with | .inl p => some p | .inr q => if fitsK q (clkOf (deepN nt c1 c2 ax ay n) (sS (onB (i + 1)))) then eqsK (deepN nt c1 c2 ax ay n) (eqsN nt (c + (13 + nl (nt i) + 2 * ol i)) (i + 1) m ++ r) else some c) = _
  rw [deep_expr hn (by omega), deep_clk hn (by omega)]
  dsimp only
  rw [if_pos (by unfold fitsK; rw [decide_eq_true rfl]; rfl)]
  exact deep_eqs hn m _ (i + 1) (by omega)
theorem deep_fault (h0 : 0 < n) (hn : n ≤ 20) : clocksF [deepN nt c1 c2 ax ay n] = none := by
 have e : eqsK (deepN nt c1 c2 ax ay n) (deepN nt c1 c2 ax ay n).eqs = none := by
  show eqsK (deepN nt c1 c2 ax ay n) (eqsN nt c2 0 n ++ [⟨sY, .mk sVar sX 0 ax [], ay⟩]) = none
  rw [deep_eqs hn n c2 0 (by omega)]
  have hx := deep_clx (nt := nt) (c1 := c1) (c2 := c2) (ax := ax) (ay := ay) h0
  have hy := deep_cly (nt := nt) (c1 := c1) (c2 := c2) (ax := ax) (ay := ay) h0
  generalize deepN nt c1 c2 ax ay n = d at *
  have ev : exprK d (.mk sVar sX 0 ax []) = .inr ([], false) := by
   unfold exprK exprKs
   dsimp only
   have : ownK d sVar sX 0 [] = ((clkOf d sX, false), true) := by
    unfold ownK
    rw [if_neg (by decide), if_pos rfl]
   rw [this, if_pos rfl, hx]
  unfold eqsK
  dsimp only
  rw [ev]
  dsimp only
  rw [hy]; rfl
 unfold clocksF
 rw [e]; rfl
theorem down_len : ∀ i, (downL nt i).length = i
 | 0 => rfl
 | i + 1 => congrArg (· + 1) (down_len i)
theorem down_last : ∀ i, ∃ r, (downL nt (i + 1)).reverse = (sC, nt 0) :: r
 | 0 => ⟨[], rfl⟩
 | i + 1 => by
  obtain ⟨r, h⟩ := down_last i
  refine ⟨r ++ [(sS (onB (i + 1)), nt (i + 1))], ?_⟩
  show ((sS (onB (i + 1)), nt (i + 1)) :: downL nt (i + 1)).reverse = _
  rw [List.reverse_cons, h]; rfl
end
end
end Go.Plain
namespace Go.Proofs.Ytpjmiopplfmcfaa
open Go.Eng Go.Plain
set_option autoImplicit false
set_option maxRecDepth 100000
variable {nat : ∀ [Deep], Nats}
attribute [local irreducible] wpN
@[go_sem] theorem opd_d_c {φ : FN} : opd φ (.const (.string ⟨#[99]⟩)) = .str 1 99 := rfl
@[go_sem] theorem opd_d_b {φ : FN} : opd φ (.const (.string ⟨#[98]⟩)) = .str 1 98 := rfl
@[go_sem] theorem opd_d_pre {φ : FN} : opd φ (.const (.string ⟨#[110, 111, 100, 101, 32, 102, 40, 99, 58, 32, 98, 111, 111, 108, 59, 32, 120, 58, 32, 105, 110, 116, 41, 32, 114, 101, 116, 117, 114, 110, 115, 32, 40, 121, 58, 32, 105, 110, 116, 41, 59, 32, 118, 97, 114, 32]⟩)) = .str 46 76202690637235844335051578198230195404845907473423251477528611396333187079937076454174162057325341974706024302 := rfl
@[go_sem] theorem opd_d_not {φ : FN} : opd φ (.const (.string ⟨#[110, 111, 116, 32]⟩)) = .str 4 544501614 := rfl
@[go_sem] theorem opd_d_hang {φ : FN} : opd φ (.const (.string ⟨#[58, 32, 98, 111, 111, 108, 32, 119, 104, 101, 110, 32]⟩)) = .str 12 10036981040500785024004661306 := rfl
@[go_sem] theorem opd_d_is {φ : FN} : opd φ (.const (.string ⟨#[32, 61, 32]⟩)) = .str 3 2112800 := rfl
@[go_sem] theorem opd_d_when {φ : FN} : opd φ (.const (.string ⟨#[32, 119, 104, 101, 110, 32]⟩)) = .str 6 35658519836448 := rfl
@[go_sem] theorem opd_d_let {φ : FN} : opd φ (.const (.string ⟨#[108, 101, 116, 32]⟩)) = .str 4 544499052 := rfl
@[go_sem] theorem opd_d_fin {φ : FN} : opd φ (.const (.string ⟨#[121, 32, 61, 32, 120, 59, 32, 116, 101, 108]⟩)) = .str 10 511887069054861125165177 := rfl
theorem cd_preD : codesL preD = 76202690637235844335051578198230195404845907473423251477528611396333187079937076454174162057325341974706024302 := by kernel_rfl
theorem cd_not : codesL notS = 544501614 := by kernel_rfl
theorem cd_hang : codesL hangB = 10036981040500785024004661306 := by kernel_rfl
theorem cd_semi : codesL semiB = 8251 := by kernel_rfl
theorem cd_is : codesL isB = 2112800 := by kernel_rfl
theorem cd_when : codesL whenB = 35658519836448 := by kernel_rfl
theorem cd_let4 : codesL letB = 544499052 := by kernel_rfl
theorem cd_fin : codesL finB = 511887069054861125165177 := by kernel_rfl
theorem cd_b {k : Nat} (h : k < 20) : strCat 1 98 (97 + k) = codesL (bB k) := by
 refine (catS [98] [UInt8.ofNat (97 + k)] rfl rfl (w := 97 + k) ?_).trans rfl
 show (UInt8.ofNat (97 + k)).toNat + 256 * 0 = _
 rw [u8_of (by omega)]; omega
noncomputable def bitNot (b i : Nat) : Bool := !decide (b &&& shlN .i64 1 i = 0)
theorem catQ {n v w : Nat} {x y : By} (hn : n = x.length) (hv : v = codesL x) (hw : w = codesL y) : strCat n v w = codesL (x ++ y) := by
 subst hn hv hw
 exact cat_codes x y
theorem strQ {n v : Nat} {x y : By} (hn : n = x.length) (hv : v = codesL x) (h : x = y) : AV.str n v = .str y.length (codesL y) := by
 subst hn hv h; rfl
theorem l_hang : hangB.length = 12 := rfl
theorem l_not : notS.length = 4 := rfl
theorem l_semi : semiB.length = 2 := rfl
theorem l_is : isB.length = 3 := rfl
theorem l_when : whenB.length = 6 := rfl
theorem l_let : letB.length = 4 := rfl
theorem l_fin : finB.length = 10 := rfl
theorem len_bB (k : Nat) : (bB k).length = 2 := rfl
theorem h_t (X Y : By) {i : Nat} (h : i < 20) : AV.str (X.length + (1 + 1) + 12 + 4 + Y.length + 2) (strCat (X.length + (1 + 1) + 12 + 4 + Y.length) (strCat (X.length + (1 + 1) + 12 + 4) (strCat (X.length + (1 + 1) + 12) (strCat (X.length + (1 + 1)) (strCat X.length (codesL X) (strCat 1 98 (97 + i))) 10036981040500785024004661306) 544501614) (codesL Y)) 8251) =
  .str (X ++ (bB i ++ (hangB ++ (notS ++ (Y ++ semiB))))).length (codesL (X ++ (bB i ++ (hangB ++ (notS ++ (Y ++ semiB)))))) :=
 strQ (x := X ++ bB i ++ hangB ++ notS ++ Y ++ semiB) (by simp only [List.length_append, len_bB, l_hang, l_not, l_semi]) (catQ (by simp only [List.length_append, len_bB, l_hang, l_not]) (catQ (by simp only [List.length_append, len_bB, l_hang, l_not]) (catQ (by simp only [List.length_append, len_bB, l_hang]) (catQ (by simp only [List.length_append, len_bB]) (catQ rfl rfl (cd_b h)) cd_hang.symm) cd_not.symm) rfl) cd_semi.symm) (by simp only [List.append_assoc])
theorem h_f (X Y : By) {i : Nat} (h : i < 20) : AV.str (X.length + 14 + Y.length + 2) (strCat (X.length + 14 + Y.length) (strCat (X.length + 14) (strCat (X.length + (1 + 1) + 12) (strCat (X.length + (1 + 1)) (strCat X.length (codesL X) (strCat 1 98 (97 + i))) 10036981040500785024004661306) 0) (codesL Y)) 8251) =
  .str (X ++ (bB i ++ (hangB ++ ([] ++ (Y ++ semiB))))).length (codesL (X ++ (bB i ++ (hangB ++ ([] ++ (Y ++ semiB)))))) :=
 strQ (x := X ++ bB i ++ hangB ++ [] ++ Y ++ semiB) (by simp only [List.length_append, len_bB, l_hang, l_semi, List.length_nil]) (catQ (by simp only [List.length_append, len_bB, l_hang, List.length_nil]) (catQ (by simp only [List.length_append, len_bB, l_hang, List.length_nil]) (catQ (by simp only [List.length_append, len_bB, l_hang]) (catQ (by simp only [List.length_append, len_bB]) (catQ rfl rfl (cd_b h)) cd_hang.symm) rfl) rfl) cd_semi.symm) (by simp only [List.append_assoc])
theorem q_t (X Y : By) {i : Nat} (h : i < 20) : AV.str (X.length + (1 + 1) + 3 + Y.length + 6 + 4 + Y.length + 2) (strCat (X.length + (1 + 1) + 3 + Y.length + 6 + 4 + Y.length) (strCat (X.length + (1 + 1) + 3 + Y.length + 6 + 4) (strCat (X.length + (1 + 1) + 3 + Y.length + 6) (strCat (X.length + (1 + 1) + 3 + Y.length) (strCat (X.length + (1 + 1) + 3) (strCat (X.length + (1 + 1)) (strCat X.length (codesL X) (strCat 1 98 (97 + i))) 2112800) (codesL Y)) 35658519836448) 544501614) (codesL Y)) 8251) =
  .str (X ++ (bB i ++ (isB ++ (Y ++ (whenB ++ (notS ++ (Y ++ semiB))))))).length (codesL (X ++ (bB i ++ (isB ++ (Y ++ (whenB ++ (notS ++ (Y ++ semiB)))))))) :=
 strQ (x := X ++ bB i ++ isB ++ Y ++ whenB ++ notS ++ Y ++ semiB) (by simp only [List.length_append, len_bB, l_is, l_when, l_not, l_semi]) (catQ (by simp only [List.length_append, len_bB, l_is, l_when, l_not]) (catQ (by simp only [List.length_append, len_bB, l_is, l_when, l_not]) (catQ (by simp only [List.length_append, len_bB, l_is, l_when]) (catQ (by simp only [List.length_append, len_bB, l_is]) (catQ (by simp only [List.length_append, len_bB, l_is]) (catQ (by simp only [List.length_append, len_bB]) (catQ rfl rfl (cd_b h)) cd_is.symm) rfl) cd_when.symm) cd_not.symm) rfl) cd_semi.symm) (by simp only [List.append_assoc])
theorem q_f (X Y : By) {i : Nat} (h : i < 20) {m1 m2 m3 : Nat} (h1 : m1 = X.length + 11 + Y.length) (h2 : m2 = m1 + Y.length) (h3 : m3 = m2 + 2) : AV.str m3 (strCat m2 (strCat m1 (strCat (X.length + (1 + 1) + 3 + Y.length + 6) (strCat (X.length + (1 + 1) + 3 + Y.length) (strCat (X.length + (1 + 1) + 3) (strCat (X.length + (1 + 1)) (strCat X.length (codesL X) (strCat 1 98 (97 + i))) 2112800) (codesL Y)) 35658519836448) 0) (codesL Y)) 8251) =
  .str (X ++ (bB i ++ (isB ++ (Y ++ (whenB ++ ([] ++ (Y ++ semiB))))))).length (codesL (X ++ (bB i ++ (isB ++ (Y ++ (whenB ++ ([] ++ (Y ++ semiB)))))))) :=
 strQ (x := X ++ bB i ++ isB ++ Y ++ whenB ++ [] ++ Y ++ semiB) (by simp only [List.length_append, len_bB, l_is, l_when, l_semi, List.length_nil]; omega) (catQ (by simp only [List.length_append, len_bB, l_is, l_when, List.length_nil]; omega) (catQ (by simp only [List.length_append, len_bB, l_is, l_when, List.length_nil]; omega) (catQ (by simp only [List.length_append, len_bB, l_is, l_when]) (catQ (by simp only [List.length_append, len_bB, l_is]) (catQ (by simp only [List.length_append, len_bB, l_is]) (catQ (by simp only [List.length_append, len_bB]) (catQ rfl rfl (cd_b h)) cd_is.symm) rfl) cd_when.symm) rfl) rfl) cd_semi.symm) (by simp only [List.append_assoc])
theorem t_t (X Y : By) : AV.str (X.length + 4 + Y.length + 10) (strCat (X.length + 4 + Y.length) (strCat (X.length + 4) (strCat X.length (codesL X) 544499052) (codesL Y)) 511887069054861125165177) = .str (X ++ (letB ++ (Y ++ finB))).length (codesL (X ++ (letB ++ (Y ++ finB)))) :=
 strQ (x := X ++ letB ++ Y ++ finB) (by simp only [List.length_append, l_let, l_fin]) (catQ (by simp only [List.length_append, l_let]) (catQ (by simp only [List.length_append, l_let]) (catQ rfl rfl cd_let4.symm) rfl) cd_fin.symm) (by simp only [List.append_assoc])
@[go_sem] theorem flt_good : goodEq Try.prog 33 false = true := by kernel_rfl
theorem flt_eq {a b c d : Nat} : (eqB Try.prog 33).f (.agg [.int .i64 a, .int .i64 b]) (.agg [.int .i64 c, .int .i64 d]) = oB (some (Nat.beq a c)) (oB (some (Nat.beq b d)) (some true) (some false) none) (some false) none := by kernel_rfl
@[go_sem] theorem bool_good8 : goodEq Try.prog 4 false = true := by kernel_rfl
theorem bool_eq8 {a b : Bool} : (eqB Try.prog 4).f (.bool a) (.bool b) = some (beqB a b) := by kernel_rfl
theorem bit_0 {b : Nat} : decide (b &&& 1 = 1) = bitNot b 0 := by
 unfold bitNot
 have e : shlN .i64 1 0 = 1 := by kernel_rfl
 rw [e]
 have : b &&& 1 ≤ 1 := Nat.and_le_right
 by_cases h : b &&& 1 = 0
 ·rw [decide_eq_true h, decide_eq_false (by omega)]; rfl
 ·rw [decide_eq_false h, decide_eq_true (by omega)]; rfl
set_option maxHeartbeats 8000000 in
theorem deep_spec (U : Usual nat) (hk : ∀ [Deep], nat 25 = some trueNat) (η : HN) (n b : Nat) (hn : n < 18446744073709551616) (hb : b < 18446744073709551616) :
  ∃ v η', CallN Try.prog nat 8 [.int .i64 n, .int .i64 b] η v η' ∧ v = .bool true := by
 refine call_of (PT := pl8) Try.func8 rfl (U 8 (by decide)) ok8 rfl ?_
 simp -implicitDefEqProofs (disch := omega) only [go_sem]
 refine thenN_call ⟨_, _, callN_true hk, ?_⟩
 simp -implicitDefEqProofs (disch := omega) only [go_sem, Bool.not_true]
 by_cases A1 : 9223372036854775807 < n
 ·have f1 := ltN_big A1 (m := 1) (by decide)
  simp -implicitDefEqProofs (disch := omega) only [go_sem, f1]
 by_cases A2 : n < 1
 ·simp -implicitDefEqProofs (disch := omega) only [go_sem]
 by_cases A3 : 20 < n
 ·simp -implicitDefEqProofs (disch := omega) only [go_sem]
 simp -implicitDefEqProofs (disch := omega) only [go_sem]
 obtain ⟨I, hI⟩ : ∃ I : Nat → FN → HN → Prop, ∀ m φ ζ, I m φ ζ ↔ ∃ i, m = n - i ∧ i ≤ n ∧ (φ 0 = .int .i64 n ∧ φ 1 = .int .i64 b ∧ φ 8 = .int .i64 i ∧ φ 5 = .str (preD ++ repB (hB (bitNot b)) 0 i).length (codesL (preD ++ repB (hB (bitNot b)) 0 i)) ∧ φ 6 = .str (repB (qB (bitNot b)) 0 i).length (codesL (repB (qB (bitNot b)) 0 i)) ∧ φ 7 = .str (onB i).length (codesL (onB i))) := ⟨_, fun _ _ _ => Iff.rfl⟩
 refine wpN_loop I n ((hI _ _ _).2 ⟨0, rfl, Nat.zero_le _, rfl, rfl, rfl, by rw [show preD ++ repB (hB (bitNot b)) 0 0 = preD from rfl, cd_preD]; rfl, rfl, rfl⟩) ?_
 intro m φ ζ hi
 obtain ⟨i, hm, hi, p0, p1, p8, p5, p6, p7⟩ := (hI _ _ _).1 hi
 have s5 : (preD ++ repB (hB (bitNot b)) 0 i).length ≤ 500 := by
  have h1 := rep_le (f := hB (bitNot b)) h_len i 0
  rw [List.length_append]
  show 46 + _ ≤ 500
  omega
 have s6 : (repB (qB (bitNot b)) 0 i).length ≤ 500 := by
  have h1 := rep_le (f := qB (bitNot b)) q_len i 0
  omega
 have s7 := on_len i
 have s7' := ol_le i
 have r5 : preD ++ repB (hB (bitNot b)) 0 (i + 1) = (preD ++ repB (hB (bitNot b)) 0 i) ++ hB (bitNot b) i := by rw [repB_snoc, Nat.zero_add, List.append_assoc]
 have r6 : repB (qB (bitNot b)) 0 (i + 1) = repB (qB (bitNot b)) 0 i ++ qB (bitNot b) i := by rw [repB_snoc, Nat.zero_add]
 obtain ⟨X5, h5⟩ : ∃ X, X = preD ++ repB (hB (bitNot b)) 0 i := ⟨_, rfl⟩
 obtain ⟨X6, h6⟩ : ∃ X, X = repB (qB (bitNot b)) 0 i := ⟨_, rfl⟩
 obtain ⟨X7, h7⟩ : ∃ X, X = onB i := ⟨_, rfl⟩
 rw [← h5] at p5 s5 r5
 rw [← h6] at p6 s6 r6
 rw [← h7] at p7 s7
 by_cases hlt : i < n
 ·cases hc : bitNot b i with
  | true =>
   have hd : (!decide (b &&& shlN .i64 1 i = 0)) = true := hc
   simp -implicitDefEqProofs (disch := omega) only [go_sem, p0, p1, p5, p6, p7, p8, repL_s, repL_z, setsL_c, hd]
   refine ⟨n - (i + 1), by omega, (hI _ _ _).2 ⟨i + 1, rfl, hlt, by exact p0, by exact p1, rfl, ?_, ?_, ?_⟩⟩
   ·rw [r5]
    have eh : hB (bitNot b) i = bB i ++ (hangB ++ (notS ++ (X7 ++ semiB))) := by unfold hB; rw [hc, ← h7]; rfl
    rw [eh]
    exact h_t X5 X7 (by omega)
   ·rw [r6]
    have eh : qB (bitNot b) i = bB i ++ (isB ++ (X7 ++ (whenB ++ (notS ++ (X7 ++ semiB))))) := by unfold qB; rw [hc, ← h7]; rfl
    rw [eh]
    exact q_t X6 X7 (by omega)
   ·exact strQ (x := bB i) rfl (cd_b (by omega)) rfl
  | false =>
   have hd : (!decide (b &&& shlN .i64 1 i = 0)) = false := hc
   simp -implicitDefEqProofs (disch := omega) only [go_sem, p0, p1, p5, p6, p7, p8, repL_s, repL_z, setsL_c, hd]
   refine ⟨n - (i + 1), by omega, (hI _ _ _).2 ⟨i + 1, rfl, hlt, by exact p0, by exact p1, rfl, ?_, ?_, ?_⟩⟩
   ·rw [r5]
    have eh : hB (bitNot b) i = bB i ++ (hangB ++ ([] ++ (X7 ++ semiB))) := by unfold hB; rw [hc, ← h7]; rfl
    rw [eh]
    exact h_f X5 X7 (by omega)
   ·rw [r6]
    have eh : qB (bitNot b) i = bB i ++ (isB ++ (X7 ++ (whenB ++ ([] ++ (X7 ++ semiB))))) := by unfold qB; rw [hc, ← h7]; rfl
    rw [eh]
    exact q_f X6 X7 (by omega) (by omega) (by omega) (by omega)
   ·exact strQ (x := bB i) rfl (cd_b (by omega)) rfl
 ·obtain rfl : i = n := by omega
  have tx := t_t X5 X6
  have eT : X5 ++ (letB ++ (X6 ++ finB)) = deepB (bitNot b) i := by rw [h5, h6]; unfold deepB; rw [List.append_assoc]
  rw [eT] at tx
  obtain ⟨c1, c2, ax, ay, ep⟩ := deep_tree (nt := bitNot b) (n := i) (by omega) (by omega)
  have hl := deep_len (nt := bitNot b) (n := i) (by omega)
  simp -implicitDefEqProofs (disch := omega) only [go_sem, p0, p1, p5, p6, p7, p8]
  rw [tx]
  refine thenN_call (parse_of U (cut_spec U) (by omega) fun v η2 tr E2 => ?_)
  obtain ⟨ls, r1, r2⟩ := tree_rd tr
  have okl := parse_ok (deepB (bitNot b) i)
  rw [ep] at okl r2 ⊢
  have e3 : ExtB η2.nx η2 (η2.new (.live false [.int .i64 0, .int .i64 0])) := extN (.refl _ _)
  have c3 : (η2.new (.live false [.int .i64 0, .int .i64 0])).f η2.nx = .live false [.int .i64 0, .int .i64 0] := if_pos rfl
  have ec := deep_fault (nt := bitNot b) (c1 := c1) (c2 := c2) (ax := ax) (ay := ay) (n := i) (by omega) (by omega)
  have ek := deep_clk (nt := bitNot b) (c1 := c1) (c2 := c2) (ax := ax) (ay := ay) (n := i) (by omega) (Nat.le_refl _)
  generalize deepN (bitNot b) c1 c2 ax ay i = dn at *
  have okl : okL [dn] := okl
  simp -implicitDefEqProofs (disch := omega) only [go_sem, p0, p1, p7, c3, repL_s, repL_z, setsL_c]
  generalize η2.new (.live false [.int .i64 0, .int .i64 0]) = η3 at *
  refine thenN_call (back_spec U okl (r1.ext (base := 0) e3) (rdNs_keep (keep_b e3) e3.1 (fun _ h => h) r2) fun x4 η4 ls4 o4 r4 E4 => ?_)
  obtain ⟨lsl, ls6⟩ := rdNs_len r4
  have rv := own_rdR o4 ls6
  obtain ⟨hi', ri⟩ := rdNs_at r4 0 (Nat.zero_lt_one)
  have ri : rdN tt η4 dn ls4[0] := ri
  obtain ⟨b', off, cap, ro, row, ex, hbv, hbn, hlen, hrow⟩ := rv.at hi'
  have ri' := ri
  obtain ⟨y1, y2, y3, y4, ez, -⟩ := ri'
  rw [ez] at hrow ri
  have hsn : sV dn.nm = .str dn.nm.1 dn.nm.2 := rfl
  rw [hsn] at ri hrow
  have lsl : ls4.length = 1 := lsl
  rw [Nat.zero_mul, Nat.add_zero] at hrow hlen
  have h7s : X7.length = (sS (onB i)).1 ∧ codesL X7 = (sS (onB i)).2 := by rw [h7]; exact ⟨rfl, rfl⟩
  rw [h7s.1, h7s.2] at p7
  subst ex
  rw [lsl] at rv
  simp -implicitDefEqProofs (disch := omega) only [go_sem, p0, p1, p7, lsl, hbv, hrow, Nat.zero_mul, Nat.add_zero]
  refine thenN_call (of_then U ri (okl.2 _ (List.mem_singleton.2 rfl)) (sS (onB i)) fun y5 η5 k5 x5 => ?_)
  rw [ek] at k5
  have dl := down_len (nt := bitNot b) i
  obtain ⟨j, rfl⟩ : ∃ j, i = j + 1 := ⟨i - 1, by omega⟩
  obtain ⟨rest, dh⟩ := down_last (nt := bitNot b) j
  have dlr : (downL (bitNot b) (j + 1)).reverse.length = j + 1 := by rw [List.length_reverse]; exact dl
  rw [dh] at k5 dlr
  have lc := fun η' e w => ck_len (η' := η') k5 (by omega) e w
  rw [dlr] at lc
  simp -implicitDefEqProofs (disch := omega) only [go_sem, p0, p1, p7]
  refine thenN_call (clkCheck_then U okl (rv.ext (base := 0) x5) (rdNs_keep (keep_b x5) x5.1 (fun _ h => h) r4) fun η6 x6 => ?_)
  rw [ec]
  obtain ⟨b1, q1, rfl, q2, q3, q4⟩ := ck_at k5 (i := 0) (by simp)
  have q6 := (x6.2 _ q1).trans q2
  have e1 : faultOf 10 none = (0, 0) := rfl
  rw [e1]
  have g0 : ((((sC, bitNot b 0) :: rest).map stc).flatten).getD 0 und = .str 1 99 := rfl
  have g1 : ((((sC, bitNot b 0) :: rest).map stc).flatten).getD 1 und = .bool (bitNot b 0) := rfl
  have q3 : (List.drop (0 * 2) ((((sC, bitNot b 0) :: rest).map stc).flatten)).take 2 = [.str 1 99, .bool (bitNot b 0)] := q3
  rw [Nat.zero_mul] at q3
  have ez : (eqB Try.prog 33).f (.agg [.int .i64 0, .int .i64 0]) (.agg [.int .i64 0, .int .i64 0]) = some true := flt_eq
  have e2 : ∀ x, (eqB Try.prog 4).f (.bool x) (.bool x) = some true := fun x => by rw [bool_eq8]; cases x <;> rfl
  have e3 := bit_0 (b := b)
  have es : strEq 1 99 1 99 = true := by kernel_rfl
  rw [dlr] at q4
  simp -implicitDefEqProofs (disch := omega) only [go_sem, p0, p1, p7, lc, ez, q6, q3, q4, es, e3, e2, dlr, g0, g1]
end Go.Proofs.Ytpjmiopplfmcfaa
