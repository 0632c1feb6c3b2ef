/-
  No cell of these rows narrows 'for every input' (looked for: loops, veiled, ifaces, maps, wideKeys, modest, calm, conditions, laid).
  DERIVED. THE GIVEN ROWS OF THIS SEAT. 13 by the template 'for every input the law returns true; each argument reads behind the call as it read before'; 0 by the template 'total and deterministic' (their statements: YtjljolnhmmbkoaaTotals.lean).
  GIVEN WITH THE SEED: the statements are not yours to turn. If you find one false, say at which input.
  Laid BY PROGRAM, IN A SANDBOX (cutbox-rows.mjs): the forced cells as the released guide's own fill.sh prints them over the translation b19f29d7e4cf3a69… (all of the seat's roots in one cut). By AI agents, Wed Nov 11 2026. No macro, syntax, notation, axiom, sorry.
-/
import Derived.Test.YtjljolnhmmbkoaaChecked
import GoSem.Claim
import GoSem.ClaimJoined
import GoSem.ClaimMapViews
import Derived.JoinedTies
import Derived.KernelRfl
namespace Go.Proofs.Ytjljolnhmmbkoaa
/- THE CELL 'sum', in the pinned program and in every row, IS THE sha256 OF THE DUMP (.gsa) THAT YtjljolnhmmbkoaaProg.lean LOADS. Nothing in Lean hashes anything: it is a label: what it is worth is what the hold of that sum in a sandbox is worth. -/
noncomputable def Try.pinned : Pinned := { name := "ytjljolnhmmbkoaa", sum := "b19f29d7e4cf3a6991e51fa0a165b402046aef96fac63e24f0029b05041e142c", checked := Try.checked }
namespace Rows
def none {H : Type} : Left H := { results := [], args := [] }

/-- 'escapementlaw16.ValidKnown': WHATEVER THE INPUT: true; the input reads as it did. -/
def validKnownSpec : ChangeSpec := { name := "validKnown", fn := fun _ => fun
  | [] => { results := [.lit (.bool true)], args := [] }
  | _ => none }
def validKnownRow : OpenClaim := { program := "ytjljolnhmmbkoaa", sum := "b19f29d7e4cf3a6991e51fa0a165b402046aef96fac63e24f0029b05041e142c", func := "escapement/escapementlaw16.ValidKnown", spec := "validKnown", unfollowed := true, recurses := true, apart := false }
def ValidKnownSaid : Prop := validKnownRow.holds Try.pinned (OpenSpec.ofChange validKnownSpec)

/-- ITS FALSE NEIGHBOUR: 'it returns false'. Refute it at one input. -/
def validKnownWrong : ChangeSpec := { name := "validKnown", fn := fun _ => fun
  | [] => { results := [.lit (.bool false)], args := [] }
  | _ => none }
def ValidKnownWrongFalsely : Prop := validKnownRow.holds Try.pinned (OpenSpec.ofChange validKnownWrong)

/-- 'escapementlaw16.ValidSays': WHATEVER THE INPUT: true; the input reads as it did. -/
def validSaysSpec : ChangeSpec := { name := "validSays", fn := fun _ => fun
  | [d] => { results := [.lit (.bool true)], args := [d] }
  | _ => none }
def validSaysRow : OpenClaim := { program := "ytjljolnhmmbkoaa", sum := "b19f29d7e4cf3a6991e51fa0a165b402046aef96fac63e24f0029b05041e142c", func := "escapement/escapementlaw16.ValidSays", spec := "validSays", unfollowed := true, recurses := true, apart := false }
def ValidSaysSaid : Prop := validSaysRow.holds Try.pinned (OpenSpec.ofChange validSaysSpec)

/-- ITS FALSE NEIGHBOUR: 'it returns false'. Refute it at one input. -/
def validSaysWrong : ChangeSpec := { name := "validSays", fn := fun _ => fun
  | [d] => { results := [.lit (.bool false)], args := [d] }
  | _ => none }
def ValidSaysWrongFalsely : Prop := validSaysRow.holds Try.pinned (OpenSpec.ofChange validSaysWrong)

/-- 'escapementlaw16.ValidWays': WHATEVER THE INPUT: true; the input reads as it did. -/
def validWaysSpec : ChangeSpec := { name := "validWays", fn := fun _ => fun
  | [d1, d2, d3] => { results := [.lit (.bool true)], args := [d1, d2, d3] }
  | _ => none }
def validWaysRow : OpenClaim := { program := "ytjljolnhmmbkoaa", sum := "b19f29d7e4cf3a6991e51fa0a165b402046aef96fac63e24f0029b05041e142c", func := "escapement/escapementlaw16.ValidWays", spec := "validWays", unfollowed := true, recurses := true, apart := false }
def ValidWaysSaid : Prop := validWaysRow.holds Try.pinned (OpenSpec.ofChange validWaysSpec)

/-- ITS FALSE NEIGHBOUR: 'it returns false'. Refute it at one input. -/
def validWaysWrong : ChangeSpec := { name := "validWays", fn := fun _ => fun
  | [d1, d2, d3] => { results := [.lit (.bool false)], args := [d1, d2, d3] }
  | _ => none }
def ValidWaysWrongFalsely : Prop := validWaysRow.holds Try.pinned (OpenSpec.ofChange validWaysWrong)

/-- 'escapementlaw16.ValidBounds': WHATEVER THE INPUT: true; the input reads as it did. -/
def validBoundsSpec : ChangeSpec := { name := "validBounds", fn := fun _ => fun
  | [d1, d2, d3] => { results := [.lit (.bool true)], args := [d1, d2, d3] }
  | _ => none }
def validBoundsRow : OpenClaim := { program := "ytjljolnhmmbkoaa", sum := "b19f29d7e4cf3a6991e51fa0a165b402046aef96fac63e24f0029b05041e142c", func := "escapement/escapementlaw16.ValidBounds", spec := "validBounds", unfollowed := true, recurses := true, apart := false }
def ValidBoundsSaid : Prop := validBoundsRow.holds Try.pinned (OpenSpec.ofChange validBoundsSpec)

/-- ITS FALSE NEIGHBOUR: 'it returns false'. Refute it at one input. -/
def validBoundsWrong : ChangeSpec := { name := "validBounds", fn := fun _ => fun
  | [d1, d2, d3] => { results := [.lit (.bool false)], args := [d1, d2, d3] }
  | _ => none }
def ValidBoundsWrongFalsely : Prop := validBoundsRow.holds Try.pinned (OpenSpec.ofChange validBoundsWrong)

/-- 'escapementlaw16.ValidJumps': WHATEVER THE INPUT: true; the input reads as it did. -/
def validJumpsSpec : ChangeSpec := { name := "validJumps", fn := fun _ => fun
  | [d1, d2, d3, d4] => { results := [.lit (.bool true)], args := [d1, d2, d3, d4] }
  | _ => none }
def validJumpsRow : OpenClaim := { program := "ytjljolnhmmbkoaa", sum := "b19f29d7e4cf3a6991e51fa0a165b402046aef96fac63e24f0029b05041e142c", func := "escapement/escapementlaw16.ValidJumps", spec := "validJumps", unfollowed := true, recurses := true, apart := false }
def ValidJumpsSaid : Prop := validJumpsRow.holds Try.pinned (OpenSpec.ofChange validJumpsSpec)

/-- ITS FALSE NEIGHBOUR: 'it returns false'. Refute it at one input. -/
def validJumpsWrong : ChangeSpec := { name := "validJumps", fn := fun _ => fun
  | [d1, d2, d3, d4] => { results := [.lit (.bool false)], args := [d1, d2, d3, d4] }
  | _ => none }
def ValidJumpsWrongFalsely : Prop := validJumpsRow.holds Try.pinned (OpenSpec.ofChange validJumpsWrong)

/-- 'escapementlaw17.MachKnown': WHATEVER THE INPUT: true; the input reads as it did. -/
def machKnownSpec : ChangeSpec := { name := "machKnown", fn := fun _ => fun
  | [] => { results := [.lit (.bool true)], args := [] }
  | _ => none }
def machKnownRow : OpenClaim := { program := "ytjljolnhmmbkoaa", sum := "b19f29d7e4cf3a6991e51fa0a165b402046aef96fac63e24f0029b05041e142c", func := "escapement/escapementlaw17.MachKnown", spec := "machKnown", unfollowed := true, recurses := true, apart := false }
def MachKnownSaid : Prop := machKnownRow.holds Try.pinned (OpenSpec.ofChange machKnownSpec)

/-- ITS FALSE NEIGHBOUR: 'it returns false'. Refute it at one input. -/
def machKnownWrong : ChangeSpec := { name := "machKnown", fn := fun _ => fun
  | [] => { results := [.lit (.bool false)], args := [] }
  | _ => none }
def MachKnownWrongFalsely : Prop := machKnownRow.holds Try.pinned (OpenSpec.ofChange machKnownWrong)

/-- 'escapementlaw17.MachRuns': WHATEVER THE INPUT: true; the input reads as it did. -/
def machRunsSpec : ChangeSpec := { name := "machRuns", fn := fun _ => fun
  | [d1, d2] => { results := [.lit (.bool true)], args := [d1, d2] }
  | _ => none }
def machRunsRow : OpenClaim := { program := "ytjljolnhmmbkoaa", sum := "b19f29d7e4cf3a6991e51fa0a165b402046aef96fac63e24f0029b05041e142c", func := "escapement/escapementlaw17.MachRuns", spec := "machRuns", unfollowed := true, recurses := true, apart := false }
def MachRunsSaid : Prop := machRunsRow.holds Try.pinned (OpenSpec.ofChange machRunsSpec)

/-- ITS FALSE NEIGHBOUR: 'it returns false'. Refute it at one input. -/
def machRunsWrong : ChangeSpec := { name := "machRuns", fn := fun _ => fun
  | [d1, d2] => { results := [.lit (.bool false)], args := [d1, d2] }
  | _ => none }
def MachRunsWrongFalsely : Prop := machRunsRow.holds Try.pinned (OpenSpec.ofChange machRunsWrong)

/-- 'escapementlaw17.MachLoads': WHATEVER THE INPUT: true; the input reads as it did. -/
def machLoadsSpec : ChangeSpec := { name := "machLoads", fn := fun _ => fun
  | [d1, d2, d3] => { results := [.lit (.bool true)], args := [d1, d2, d3] }
  | _ => none }
def machLoadsRow : OpenClaim := { program := "ytjljolnhmmbkoaa", sum := "b19f29d7e4cf3a6991e51fa0a165b402046aef96fac63e24f0029b05041e142c", func := "escapement/escapementlaw17.MachLoads", spec := "machLoads", unfollowed := true, recurses := true, apart := false }
def MachLoadsSaid : Prop := machLoadsRow.holds Try.pinned (OpenSpec.ofChange machLoadsSpec)

/-- ITS FALSE NEIGHBOUR: 'it returns false'. Refute it at one input. -/
def machLoadsWrong : ChangeSpec := { name := "machLoads", fn := fun _ => fun
  | [d1, d2, d3] => { results := [.lit (.bool false)], args := [d1, d2, d3] }
  | _ => none }
def MachLoadsWrongFalsely : Prop := machLoadsRow.holds Try.pinned (OpenSpec.ofChange machLoadsWrong)

/-- 'escapementlaw17.MachOps': WHATEVER THE INPUT: true; the input reads as it did. -/
def machOpsSpec : ChangeSpec := { name := "machOps", fn := fun _ => fun
  | [d1, d2, d3] => { results := [.lit (.bool true)], args := [d1, d2, d3] }
  | _ => none }
def machOpsRow : OpenClaim := { program := "ytjljolnhmmbkoaa", sum := "b19f29d7e4cf3a6991e51fa0a165b402046aef96fac63e24f0029b05041e142c", func := "escapement/escapementlaw17.MachOps", spec := "machOps", unfollowed := true, recurses := true, apart := false }
def MachOpsSaid : Prop := machOpsRow.holds Try.pinned (OpenSpec.ofChange machOpsSpec)

/-- ITS FALSE NEIGHBOUR: 'it returns false'. Refute it at one input. -/
def machOpsWrong : ChangeSpec := { name := "machOps", fn := fun _ => fun
  | [d1, d2, d3] => { results := [.lit (.bool false)], args := [d1, d2, d3] }
  | _ => none }
def MachOpsWrongFalsely : Prop := machOpsRow.holds Try.pinned (OpenSpec.ofChange machOpsWrong)

/-- 'escapementlaw17.MachCopies': WHATEVER THE INPUT: true; the input reads as it did. -/
def machCopiesSpec : ChangeSpec := { name := "machCopies", fn := fun _ => fun
  | [d1, d2, d3] => { results := [.lit (.bool true)], args := [d1, d2, d3] }
  | _ => none }
def machCopiesRow : OpenClaim := { program := "ytjljolnhmmbkoaa", sum := "b19f29d7e4cf3a6991e51fa0a165b402046aef96fac63e24f0029b05041e142c", func := "escapement/escapementlaw17.MachCopies", spec := "machCopies", unfollowed := true, recurses := true, apart := false }
def MachCopiesSaid : Prop := machCopiesRow.holds Try.pinned (OpenSpec.ofChange machCopiesSpec)

/-- ITS FALSE NEIGHBOUR: 'it returns false'. Refute it at one input. -/
def machCopiesWrong : ChangeSpec := { name := "machCopies", fn := fun _ => fun
  | [d1, d2, d3] => { results := [.lit (.bool false)], args := [d1, d2, d3] }
  | _ => none }
def MachCopiesWrongFalsely : Prop := machCopiesRow.holds Try.pinned (OpenSpec.ofChange machCopiesWrong)

/-- 'escapementlaw17.MachRefuses': WHATEVER THE INPUT: true; the input reads as it did. -/
def machRefusesSpec : ChangeSpec := { name := "machRefuses", fn := fun _ => fun
  | [d1, d2, d3] => { results := [.lit (.bool true)], args := [d1, d2, d3] }
  | _ => none }
def machRefusesRow : OpenClaim := { program := "ytjljolnhmmbkoaa", sum := "b19f29d7e4cf3a6991e51fa0a165b402046aef96fac63e24f0029b05041e142c", func := "escapement/escapementlaw17.MachRefuses", spec := "machRefuses", unfollowed := true, recurses := true, apart := false }
def MachRefusesSaid : Prop := machRefusesRow.holds Try.pinned (OpenSpec.ofChange machRefusesSpec)

/-- ITS FALSE NEIGHBOUR: 'it returns false'. Refute it at one input. -/
def machRefusesWrong : ChangeSpec := { name := "machRefuses", fn := fun _ => fun
  | [d1, d2, d3] => { results := [.lit (.bool false)], args := [d1, d2, d3] }
  | _ => none }
def MachRefusesWrongFalsely : Prop := machRefusesRow.holds Try.pinned (OpenSpec.ofChange machRefusesWrong)

/-- 'escapementlaw17.MachApart': WHATEVER THE INPUT: true; the input reads as it did. -/
def machApartSpec : ChangeSpec := { name := "machApart", fn := fun _ => fun
  | [d1, d2] => { results := [.lit (.bool true)], args := [d1, d2] }
  | _ => none }
def machApartRow : OpenClaim := { program := "ytjljolnhmmbkoaa", sum := "b19f29d7e4cf3a6991e51fa0a165b402046aef96fac63e24f0029b05041e142c", func := "escapement/escapementlaw17.MachApart", spec := "machApart", unfollowed := true, recurses := true, apart := false }
def MachApartSaid : Prop := machApartRow.holds Try.pinned (OpenSpec.ofChange machApartSpec)

/-- ITS FALSE NEIGHBOUR: 'it returns false'. Refute it at one input. -/
def machApartWrong : ChangeSpec := { name := "machApart", fn := fun _ => fun
  | [d1, d2] => { results := [.lit (.bool false)], args := [d1, d2] }
  | _ => none }
def MachApartWrongFalsely : Prop := machApartRow.holds Try.pinned (OpenSpec.ofChange machApartWrong)

/-- 'escapementlaw17.MachMany': WHATEVER THE INPUT: true; the input reads as it did. -/
def machManySpec : ChangeSpec := { name := "machMany", fn := fun _ => fun
  | [d] => { results := [.lit (.bool true)], args := [d] }
  | _ => none }
def machManyRow : OpenClaim := { program := "ytjljolnhmmbkoaa", sum := "b19f29d7e4cf3a6991e51fa0a165b402046aef96fac63e24f0029b05041e142c", func := "escapement/escapementlaw17.MachMany", spec := "machMany", unfollowed := true, recurses := true, apart := false }
def MachManySaid : Prop := machManyRow.holds Try.pinned (OpenSpec.ofChange machManySpec)

/-- ITS FALSE NEIGHBOUR: 'it returns false'. Refute it at one input. -/
def machManyWrong : ChangeSpec := { name := "machMany", fn := fun _ => fun
  | [d] => { results := [.lit (.bool false)], args := [d] }
  | _ => none }
def MachManyWrongFalsely : Prop := machManyRow.holds Try.pinned (OpenSpec.ofChange machManyWrong)

/- THE SECOND FORM. 'bulk': how many values and letters a reading holds, each counted each time it is reached (what is shared counts as often as it is met; a slice's spare places count too). A statement '..UptoSaid' is the law's where the arguments, and the package variables that the reading takes, are together of bulk at most 1048576: NARROWER than '..Said'. Prove '..Said' where nothing that the law and all that it calls make is longer than what came in: it says more and counts as full. Else prove '..UptoSaid'. A law counts once. -/
mutual
def uptoBulk {H : Type} : DataW H → Nat
  | .lit (.string bytes) => bytes.length + 1
  | .lit _ => 1
  | .nil => 1
  | .ptr d => uptoBulk d + 1
  | .slice elems spare => uptoBulkAll elems + uptoBulkAll spare + 1
  | .agg parts => uptoBulkAll parts + 1
  | .iface _ d => uptoBulk d + 1
  | .map entries => uptoBulkEntries entries + 1
  | .held _ => 1
def uptoBulkAll {H : Type} : List (DataW H) → Nat
  | [] => 0
  | d :: r => uptoBulk d + uptoBulkAll r
def uptoBulkEntries {H : Type} : List (Lit × DataW H) → Nat
  | [] => 0
  | x :: r => uptoBulkEntry x + uptoBulkEntries r
def uptoBulkEntry {H : Type} : Lit × DataW H → Nat
  | (.string bytes, d) => bytes.length + uptoBulk d + 1
  | (_, d) => uptoBulk d + 1
 end
def uptoSmall : (H : Type) → List (DataW H) → Bool := fun _ ds => decide (uptoBulkAll ds ≤ 1048576)
def OpenSpec.upto (s : _root_.Go.ChangeSpec) : _root_.Go.OpenSpec := { _root_.Go.OpenSpec.ofChange s with cond := some uptoSmall }

/-- 'escapementlaw16.ValidKnown', WHERE WHAT IT READS IS OF BULK AT MOST 1048576: true; the input reads as it did. -/
def validKnownUptoRow : OpenClaim := { program := "ytjljolnhmmbkoaa", sum := "b19f29d7e4cf3a6991e51fa0a165b402046aef96fac63e24f0029b05041e142c", func := "escapement/escapementlaw16.ValidKnown", spec := "validKnown", unfollowed := true, recurses := true, apart := false, narrowed := true }
def ValidKnownUptoSaid : Prop := validKnownUptoRow.holds Try.pinned (OpenSpec.upto validKnownSpec)

/-- 'escapementlaw16.ValidSays', WHERE WHAT IT READS IS OF BULK AT MOST 1048576: true; the input reads as it did. -/
def validSaysUptoRow : OpenClaim := { program := "ytjljolnhmmbkoaa", sum := "b19f29d7e4cf3a6991e51fa0a165b402046aef96fac63e24f0029b05041e142c", func := "escapement/escapementlaw16.ValidSays", spec := "validSays", unfollowed := true, recurses := true, apart := false, narrowed := true }
def ValidSaysUptoSaid : Prop := validSaysUptoRow.holds Try.pinned (OpenSpec.upto validSaysSpec)

/-- 'escapementlaw16.ValidWays', WHERE WHAT IT READS IS OF BULK AT MOST 1048576: true; the input reads as it did. -/
def validWaysUptoRow : OpenClaim := { program := "ytjljolnhmmbkoaa", sum := "b19f29d7e4cf3a6991e51fa0a165b402046aef96fac63e24f0029b05041e142c", func := "escapement/escapementlaw16.ValidWays", spec := "validWays", unfollowed := true, recurses := true, apart := false, narrowed := true }
def ValidWaysUptoSaid : Prop := validWaysUptoRow.holds Try.pinned (OpenSpec.upto validWaysSpec)

/-- 'escapementlaw16.ValidBounds', WHERE WHAT IT READS IS OF BULK AT MOST 1048576: true; the input reads as it did. -/
def validBoundsUptoRow : OpenClaim := { program := "ytjljolnhmmbkoaa", sum := "b19f29d7e4cf3a6991e51fa0a165b402046aef96fac63e24f0029b05041e142c", func := "escapement/escapementlaw16.ValidBounds", spec := "validBounds", unfollowed := true, recurses := true, apart := false, narrowed := true }
def ValidBoundsUptoSaid : Prop := validBoundsUptoRow.holds Try.pinned (OpenSpec.upto validBoundsSpec)

/-- 'escapementlaw16.ValidJumps', WHERE WHAT IT READS IS OF BULK AT MOST 1048576: true; the input reads as it did. -/
def validJumpsUptoRow : OpenClaim := { program := "ytjljolnhmmbkoaa", sum := "b19f29d7e4cf3a6991e51fa0a165b402046aef96fac63e24f0029b05041e142c", func := "escapement/escapementlaw16.ValidJumps", spec := "validJumps", unfollowed := true, recurses := true, apart := false, narrowed := true }
def ValidJumpsUptoSaid : Prop := validJumpsUptoRow.holds Try.pinned (OpenSpec.upto validJumpsSpec)

/-- 'escapementlaw17.MachKnown', WHERE WHAT IT READS IS OF BULK AT MOST 1048576: true; the input reads as it did. -/
def machKnownUptoRow : OpenClaim := { program := "ytjljolnhmmbkoaa", sum := "b19f29d7e4cf3a6991e51fa0a165b402046aef96fac63e24f0029b05041e142c", func := "escapement/escapementlaw17.MachKnown", spec := "machKnown", unfollowed := true, recurses := true, apart := false, narrowed := true }
def MachKnownUptoSaid : Prop := machKnownUptoRow.holds Try.pinned (OpenSpec.upto machKnownSpec)

/-- 'escapementlaw17.MachRuns', WHERE WHAT IT READS IS OF BULK AT MOST 1048576: true; the input reads as it did. -/
def machRunsUptoRow : OpenClaim := { program := "ytjljolnhmmbkoaa", sum := "b19f29d7e4cf3a6991e51fa0a165b402046aef96fac63e24f0029b05041e142c", func := "escapement/escapementlaw17.MachRuns", spec := "machRuns", unfollowed := true, recurses := true, apart := false, narrowed := true }
def MachRunsUptoSaid : Prop := machRunsUptoRow.holds Try.pinned (OpenSpec.upto machRunsSpec)

/-- 'escapementlaw17.MachLoads', WHERE WHAT IT READS IS OF BULK AT MOST 1048576: true; the input reads as it did. -/
def machLoadsUptoRow : OpenClaim := { program := "ytjljolnhmmbkoaa", sum := "b19f29d7e4cf3a6991e51fa0a165b402046aef96fac63e24f0029b05041e142c", func := "escapement/escapementlaw17.MachLoads", spec := "machLoads", unfollowed := true, recurses := true, apart := false, narrowed := true }
def MachLoadsUptoSaid : Prop := machLoadsUptoRow.holds Try.pinned (OpenSpec.upto machLoadsSpec)

/-- 'escapementlaw17.MachOps', WHERE WHAT IT READS IS OF BULK AT MOST 1048576: true; the input reads as it did. -/
def machOpsUptoRow : OpenClaim := { program := "ytjljolnhmmbkoaa", sum := "b19f29d7e4cf3a6991e51fa0a165b402046aef96fac63e24f0029b05041e142c", func := "escapement/escapementlaw17.MachOps", spec := "machOps", unfollowed := true, recurses := true, apart := false, narrowed := true }
def MachOpsUptoSaid : Prop := machOpsUptoRow.holds Try.pinned (OpenSpec.upto machOpsSpec)

/-- 'escapementlaw17.MachCopies', WHERE WHAT IT READS IS OF BULK AT MOST 1048576: true; the input reads as it did. -/
def machCopiesUptoRow : OpenClaim := { program := "ytjljolnhmmbkoaa", sum := "b19f29d7e4cf3a6991e51fa0a165b402046aef96fac63e24f0029b05041e142c", func := "escapement/escapementlaw17.MachCopies", spec := "machCopies", unfollowed := true, recurses := true, apart := false, narrowed := true }
def MachCopiesUptoSaid : Prop := machCopiesUptoRow.holds Try.pinned (OpenSpec.upto machCopiesSpec)

/-- 'escapementlaw17.MachRefuses', WHERE WHAT IT READS IS OF BULK AT MOST 1048576: true; the input reads as it did. -/
def machRefusesUptoRow : OpenClaim := { program := "ytjljolnhmmbkoaa", sum := "b19f29d7e4cf3a6991e51fa0a165b402046aef96fac63e24f0029b05041e142c", func := "escapement/escapementlaw17.MachRefuses", spec := "machRefuses", unfollowed := true, recurses := true, apart := false, narrowed := true }
def MachRefusesUptoSaid : Prop := machRefusesUptoRow.holds Try.pinned (OpenSpec.upto machRefusesSpec)

/-- 'escapementlaw17.MachApart', WHERE WHAT IT READS IS OF BULK AT MOST 1048576: true; the input reads as it did. -/
def machApartUptoRow : OpenClaim := { program := "ytjljolnhmmbkoaa", sum := "b19f29d7e4cf3a6991e51fa0a165b402046aef96fac63e24f0029b05041e142c", func := "escapement/escapementlaw17.MachApart", spec := "machApart", unfollowed := true, recurses := true, apart := false, narrowed := true }
def MachApartUptoSaid : Prop := machApartUptoRow.holds Try.pinned (OpenSpec.upto machApartSpec)

/-- 'escapementlaw17.MachMany', WHERE WHAT IT READS IS OF BULK AT MOST 1048576: true; the input reads as it did. -/
def machManyUptoRow : OpenClaim := { program := "ytjljolnhmmbkoaa", sum := "b19f29d7e4cf3a6991e51fa0a165b402046aef96fac63e24f0029b05041e142c", func := "escapement/escapementlaw17.MachMany", spec := "machMany", unfollowed := true, recurses := true, apart := false, narrowed := true }
def MachManyUptoSaid : Prop := machManyUptoRow.holds Try.pinned (OpenSpec.upto machManySpec)

end Rows
end Go.Proofs.Ytjljolnhmmbkoaa
