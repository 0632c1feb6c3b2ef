/- What is proved: nothing; what may be run, told of lists of numbers (chapter 16). Conditions: none. -/
import Derived.Test.YtjljolnhmmbkoaaWK
set_option linter.unusedVariables false
set_option linter.unusedSimpArgs false
set_option linter.unusedSectionVars false
namespace Go.Plain
open Go.Eng
set_option autoImplicit false
/-- an instruction, by its numbers' residues -/
structure Ins where
  op : Nat
  a : Nat
  b : Nat
  c : Nat
def Ins.cells (i : Ins) : List AV := [.int .i64 i.op, .int .i64 i.a, .int .i64 i.b, .int .i64 i.c]
/-- a program, by lists -/
structure PD where
  ins : List Nat
  outs : List Nat
  slots : List Nat
  mems : List Nat
  consts : List Nat
  code : List Ins
def kdOk (k : Nat) : Bool := decide (k = 1) || decide (k = 2)
def partsF (p : PD) : Bool := decide (p.slots.length ≤ 1024) && (decide (p.mems.length ≤ 1024) && (decide (p.consts.length ≤ 1024) && (p.ins.all kdOk && (p.outs.all kdOk && (p.slots.all kdOk && (p.mems.all kdOk &&
  (decide (p.ins.length ≤ 64) && (decide (p.outs.length ≤ 64) && decide (p.code.length ≤ 8192)))))))))
def has (l : List Nat) (n : Nat) : Bool := decide (n < l.length)
def targetF (p : PD) (pc to : Nat) : Bool := decide (pc < to) && decide (to ≤ p.code.length)
def thereF (p : PD) (pc : Nat) (i : Ins) : Bool :=
  if i.op = 0 then has p.slots i.a && has p.consts i.b
  else if i.op = 1 ∨ i.op = 6 ∨ i.op = 7 then has p.slots i.a && has p.slots i.b
  else if i.op = 2 then has p.slots i.a && has p.mems i.b
  else if i.op = 3 then has p.mems i.a && has p.slots i.b
  else if i.op = 4 then has p.slots i.a && has p.ins i.b
  else if i.op = 5 then has p.outs i.a && has p.slots i.b
  else if i.op = 19 then targetF p pc i.a && has p.slots i.b
  else if i.op = 20 then targetF p pc i.a
  else decide (8 ≤ i.op ∧ i.op ≤ 18) && (has p.slots i.a && (has p.slots i.b && has p.slots i.c))
def isF (p : PD) (k n : Nat) : Bool := decide (p.slots.getD n 0 = k)
def kindsF (p : PD) (i : Ins) : Bool :=
  if i.op = 0 then isF p 2 i.a || (decide (p.consts.getD i.b 0 = 0) || decide (p.consts.getD i.b 0 = 1))
  else if i.op = 1 then decide (p.slots.getD i.a 0 = p.slots.getD i.b 0)
  else if i.op = 2 then decide (p.slots.getD i.a 0 = p.mems.getD i.b 0)
  else if i.op = 3 then decide (p.mems.getD i.a 0 = p.slots.getD i.b 0)
  else if i.op = 4 then decide (p.slots.getD i.a 0 = p.ins.getD i.b 0)
  else if i.op = 5 then decide (p.outs.getD i.a 0 = p.slots.getD i.b 0)
  else if i.op = 6 then isF p 1 i.a && isF p 1 i.b
  else if i.op = 7 then isF p 2 i.a && isF p 2 i.b
  else if 8 ≤ i.op ∧ i.op ≤ 12 then isF p 2 i.a && (isF p 2 i.b && isF p 2 i.c)
  else if i.op = 13 then isF p 1 i.a && decide (p.slots.getD i.b 0 = p.slots.getD i.c 0)
  else if i.op = 14 ∨ i.op = 15 then isF p 1 i.a && (isF p 2 i.b && isF p 2 i.c)
  else if 16 ≤ i.op ∧ i.op ≤ 18 then isF p 1 i.a && (isF p 1 i.b && isF p 1 i.c)
  else if i.op = 19 then isF p 1 i.b
  else true
/-- the slots that an instruction reads -/
def readsF (i : Ins) : List Nat := if i.op = 0 ∨ i.op = 2 ∨ i.op = 4 ∨ i.op = 20 then [] else if 8 ≤ i.op ∧ i.op ≤ 18 then [i.b, i.c] else [i.b]
/-- what was written on each way that comes to a place: slots, outputs -/
abbrev St := Option (List Bool × List Bool)
def meetF (x : St) (d : List Bool × List Bool) : List Bool × List Bool := match x with
  | none => d
  | some y => (List.zipWith and y.1 d.1, List.zipWith and y.2 d.2)
def doesF (i : Ins) (d : List Bool × List Bool) : List Bool × List Bool := if i.op = 5 then (d.1, d.2.set i.a true) else if i.op = 3 ∨ i.op = 19 ∨ i.op = 20 then d else (d.1.set i.a true, d.2)
def setF (st : Nat → St) (n : Nat) (d : List Bool × List Bool) : Nat → St := fun q => if q = n then some d else st q
def goF (i : Ins) (pc : Nat) (st : Nat → St) (d : List Bool × List Bool) : Nat → St :=
  let st1 := if i.op = 19 ∨ i.op = 20 then setF st i.a (meetF (st i.a) d) else st
  if i.op = 20 then st1 else setF st1 (pc + 1) (meetF (st1 (pc + 1)) d)
/-- through all ways: the place where a slot is read that was not written, or what was written at the end -/
def followF : List Ins → Nat → (Nat → St) → Nat ⊕ St
  | [], pc, st => .inr (st pc)
  | i :: r, pc, st => match st pc with
    | none => followF r (pc + 1) st
    | some d => if (readsF i).all (fun n => d.1.getD n false) then followF r (pc + 1) (goF i pc st (doesF i d)) else .inl pc
/-- the first instruction of which something does not hold -/
def firstF (f : Nat → Ins → Bool) : List Ins → Nat → Option Nat
  | [], _ => none
  | i :: r, pc => if f pc i then firstF f r (pc + 1) else some pc
def startF (p : PD) : Nat → St := fun q => if q = 0 then some (List.replicate p.slots.length false, List.replicate p.outs.length false) else none
/-- the rest of the rules -/
def lastF (p : PD) : Nat × Nat := match followF p.code 0 (startF p) with
  | .inl pc => (pc, 4)
  | .inr none => (0, 0)
  | .inr (some d) => if d.2.all id then (0, 0) else (p.code.length, 5)
/-- where a program has its first fault, which rule (0: none) -/
def checkF (p : PD) : Nat × Nat := if partsF p then (match firstF (thereF p) p.code 0 with
  | some pc => (pc, 2)
  | none => (match firstF (fun _ => kindsF p) p.code 0 with
    | some pc => (pc, 3)
    | none => lastF p)) else (18446744073709551615, 1)
end Go.Plain
