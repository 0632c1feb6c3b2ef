/- What is proved: lists of ints, and rows of ints, in a known call's blocks. a row of delays, told of lists. Conditions: as each theorem says. -/
import Derived.Test.YtgccjneplchojaaGreatDoorWN
import Derived.Test.YtgccjneplchojaaGreatDoorPlainM
set_option linter.unusedVariables false
set_option linter.unusedSimpArgs false
set_option linter.unusedSectionVars false
namespace Go.Eng
open Go.Plain
set_option autoImplicit false
def intsL : List AV → Option (List Nat)
  | [] => some []
  | .int .i64 n :: r => (intsL r).map (n :: ·)
  | _ :: _ => none
def insL : List AV → Option (List Ins)
  | [] => some []
  | .int .i64 o :: .int .i64 a :: .int .i64 b :: .int .i64 c :: r => (insL r).map (⟨o, a, b, c⟩ :: ·)
  | _ => none
theorem intsL_eq : ∀ {l : List AV} {ns : List Nat}, intsL l = some ns → l = ns.map (.int .i64)
  | [], ns, h => by cases h; rfl
  | a :: r, ns, h => by
    unfold intsL at h
    split at h
    · rename_i e; cases e
    · rename_i n r' e
      cases e
      cases hr : intsL r with
      | none => rw [hr] at h; cases h
      | some m => rw [hr] at h; cases h; rw [intsL_eq hr]; rfl
    · cases h
def cellsI (i : Ins) : List AV := [.int .i64 i.op, .int .i64 i.a, .int .i64 i.b, .int .i64 i.c]
theorem insL_eq : ∀ (n : Nat) {l : List AV} {ns : List Ins}, l.length ≤ n → insL l = some ns → l = (ns.map cellsI).flatten := by
  intro n
  induction n with
  | zero =>
    intro l ns hl h
    obtain rfl : l = [] := List.eq_nil_of_length_eq_zero (by omega)
    cases h; rfl
  | succ n ih =>
    intro l ns hl h
    unfold insL at h
    split at h
    · cases h; rfl
    · rename_i o a b c r
      cases hr : insL r with
      | none => rw [hr] at h; cases h
      | some m =>
        rw [hr] at h
        cases h
        rw [ih (by simp at hl; omega) hr]; rfl
    · cases h
theorem mvL_map (σ : Nat → Nat) : ∀ l : List AV, mvL σ l = l.map (mvA σ)
  | [] => rfl
  | a :: l => by rw [List.map_cons, ← mvL_map σ l]; rfl
theorem mv_ints (σ : Nat → Nat) (ns : List Nat) : (ns.map (AV.int .i64)).map (mvA σ) = ns.map (.int .i64) := by rw [List.map_map]; rfl
theorem mv_rows (σ : Nat → Nat) : ∀ ns : List Ins, ((ns.map cellsI).flatten).map (mvA σ) = (ns.map cellsI).flatten
  | [] => rfl
  | i :: ns => by
    rw [List.map_cons, List.flatten_cons, List.map_append, mv_rows σ ns]; rfl
def sliceI (bs : List (List AV)) : AV → Option (List Nat)
  | .nilslice => some []
  | .slice b 0 n _ => match bs[b]? with
    | some row => if n ≤ row.length then intsL (row.take n) else none
    | none => none
  | _ => none
def sliceC (bs : List (List AV)) : AV → Option (List Ins)
  | .nilslice => some []
  | .slice b 0 n _ => match bs[b]? with
    | some row => if n * 4 ≤ row.length then (match insL (row.take (n * 4)) with | some l => if l.length = n then some l else none | none => none) else none
    | none => none
  | _ => none
theorem flat1 : ∀ l : List Nat, l.map (AV.int .i64) = (l.map fun n => [AV.int .i64 n]).flatten
  | [] => rfl
  | a :: l => by rw [List.map_cons, List.map_cons, List.flatten_cons, ← flat1 l]; rfl
theorem sliceI_rd {bs : List (List AV)} {s : AV} {l : List Nat} {η : HN} (h : sliceI bs s = some l) : RdI .i64 (layH (bs.map (mvL fun i => Nat.add i η.nx)) η) (mvA (fun i => Nat.add i η.nx) s) l := by
  unfold sliceI at h
  split at h
  · cases h; exact .inl ⟨rfl, .inl rfl⟩
  · rename_i b n cap
    split at h
    · rename_i row hb
      split at h
      · rename_i hn
        have e := intsL_eq h
        have hl : l.length = n := by have := congrArg List.length e; rw [List.length_take, List.length_map] at this; omega
        have hlt : b < bs.length := (List.getElem?_eq_some_iff.1 hb).1
        refine .inr ⟨b + η.nx, 0, cap, false, row.map (mvA fun i => Nat.add i η.nx), ?_, ?_, ?_, ?_, ?_, ?_⟩
        · rw [List.length_map, hl]; rfl
        · exact layH_at _ _ _ _ (by rw [List.getElem?_map, hb, Option.map_some, mvL_map])
        · rw [layH_nx, List.length_map]; omega
        · rw [List.length_map, List.length_map, hl]; omega
        · intro x hx; obtain ⟨a, _, rfl⟩ := List.mem_map.1 hx; rfl
        · rw [List.drop_zero, List.length_map, Nat.mul_one, hl, ← List.map_take, e, mv_ints]
          exact flat1 l
      · cases h
    · cases h
  · cases h
theorem sliceC_rd {bs : List (List AV)} {s : AV} {l : List Ins} {η : HN} (h : sliceC bs s = some l) : RdR 4 (layH (bs.map (mvL fun i => Nat.add i η.nx)) η) (mvA (fun i => Nat.add i η.nx) s) (l.map cellsI) := by
  unfold sliceC at h
  split at h
  · cases h; exact .inl ⟨rfl, .inl rfl⟩
  · rename_i b n cap
    split at h
    · rename_i row hb
      split at h
      · rename_i hn
        split at h
        · rename_i l' hl'
          split at h
          · rename_i hl
            cases h
            have e := insL_eq _ (Nat.le_refl _) hl'
            have hlt : b < bs.length := (List.getElem?_eq_some_iff.1 hb).1
            refine .inr ⟨b + η.nx, 0, cap, false, row.map (mvA fun i => Nat.add i η.nx), ?_, ?_, ?_, ?_, ?_, ?_⟩
            · rw [List.length_map, hl]; rfl
            · exact layH_at _ _ _ _ (by rw [List.getElem?_map, hb, Option.map_some, mvL_map])
            · rw [layH_nx, List.length_map]; omega
            · rw [List.length_map, List.length_map, hl]; omega
            · intro x hx; obtain ⟨a, _, rfl⟩ := List.mem_map.1 hx; rfl
            · rw [List.drop_zero, List.length_map, hl, ← List.map_take, e, mv_rows]
          · cases h
        · cases h
      · cases h
    · cases h
  · cases h
end Go.Eng
namespace Go.Plain
open Go.Eng
set_option autoImplicit false
/-- what the j-th of n delays tells at tick i; the n-th is what comes in -/
def yv (n : Nat) (x : List Nat) (j i : Nat) : Nat := if n - j ≤ i then x.getD (i - (n - j)) 0 else 5
/-- the memories: of each delay what it keeps, and that it was there -/
def memV (n : Nat) (v : Nat → Nat) (w : Nat) : List Nat := ((List.range n).map fun j => [v j, w]).flatten
def shV (n : Nat) (v : Nat → Nat) (a : Nat) (j : Nat) : Nat := if j + 1 < n then v (j + 1) else a
/-- what lies in the memories ahead of tick i -/
def memD (n : Nat) (x : List Nat) (i : Nat) : List Nat := if i = 0 then memV n (fun _ => 0) 0 else memV n (fun j => yv n x (j + 1) (i - 1)) 1
theorem memV_congr {n : Nat} {v u : Nat → Nat} {w : Nat} (h : ∀ j, j < n → v j = u j) : memV n v w = memV n u w := by
  unfold memV
  congr 1
  refine List.map_congr_left fun j hj => ?_
  rw [h j (List.mem_range.1 hj)]
/-- one step of a program that delays -/
structure Delays (p : PD) (n : Nat) : Prop where
  step : ∀ (v : Nat → Nat) (a : Nat), (stepM p (memV n v 1) [a]).mems = memV n (shV n v a) 1
  out : ∀ (v : Nat → Nat) (a : Nat), (stepM p (memV n v 1) [a]).outs = [if n = 0 then a else v 0]
  step0 : ∀ a : Nat, (stepM p (memV n (fun _ => 0) 0) [a]).mems = memV n (shV n (fun _ => 5) a) 1
  out0 : ∀ a : Nat, (stepM p (memV n (fun _ => 0) 0) [a]).outs = [if n = 0 then a else 5]
theorem Delays.mems {p : PD} {n : Nat} (d : Delays p n) (x : List Nat) (i : Nat) : (stepM p (memD n x i) [x.getD i 0]).mems = memD n x (i + 1) := by
  unfold memD
  rw [if_neg (Nat.succ_ne_zero i)]
  by_cases h : i = 0
  · subst h
    rw [if_pos rfl, d.step0]
    refine memV_congr fun j hj => ?_
    unfold shV yv
    by_cases q : j + 1 < n
    · rw [if_pos q, if_neg (by omega)]
    · rw [if_neg q, if_pos (by omega), show 0 + 1 - 1 - (n - (j + 1)) = 0 by omega]
  · rw [if_neg h, d.step]
    refine memV_congr fun j hj => ?_
    unfold shV yv
    by_cases q : j + 1 < n
    · rw [if_pos q]
      show (if n - (j + 1 + 1) ≤ i - 1 then x.getD (i - 1 - (n - (j + 1 + 1))) 0 else 5) = _
      by_cases r : n - (j + 1 + 1) ≤ i - 1
      · rw [if_pos r, if_pos (by omega), show i - 1 - (n - (j + 1 + 1)) = i + 1 - 1 - (n - (j + 1)) by omega]
      · rw [if_neg r, if_neg (by omega)]
    · rw [if_neg q, if_pos (by omega), show i + 1 - 1 - (n - (j + 1)) = i by omega]
theorem Delays.outs {p : PD} {n : Nat} (d : Delays p n) (x : List Nat) (i : Nat) : (stepM p (memD n x i) [x.getD i 0]).outs = [yv n x 0 i] := by
  unfold memD
  by_cases h : i = 0
  · subst h
    rw [if_pos rfl, d.out0]
    unfold yv
    by_cases q : n = 0
    · rw [if_pos q, if_pos (by omega), show 0 - (n - 0) = 0 by omega]
    · rw [if_neg q, if_neg (by omega)]
  · rw [if_neg h, d.out]
    unfold yv
    by_cases q : n = 0
    · rw [if_pos q, if_pos (by omega), show i - (n - 0) = i by omega]
    · rw [if_neg q]
      by_cases r : n - (0 + 1) ≤ i - 1
      · rw [if_pos r, if_pos (by omega), show i - 1 - (n - (0 + 1)) = i - (n - 0) by omega]
      · rw [if_neg r, if_neg (by omega)]
end Go.Plain
