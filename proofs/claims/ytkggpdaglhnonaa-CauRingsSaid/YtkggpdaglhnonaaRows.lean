/-
  No cell of these rows narrows 'for every input' (looked for: loops, veiled, ifaces, maps, wideKeys, modest, calm, conditions, laid).
  DERIVED. THE GIVEN ROWS OF THIS SEAT. 16 by the template 'for every input the law returns true; each argument reads behind the call as it read before'; 0 by the template 'total and deterministic' (their statements: YtkggpdaglhnonaaTotals.lean).
  GIVEN WITH THE SEED: the statements are not yours to turn. If you find one false, say at which input.
  Laid BY PROGRAM, IN A SANDBOX (cutbox-rows.mjs): the forced cells as the released guide's own fill.sh prints them over the translation df7b519d9b5b1a9b… (all of the seat's roots in one cut). By AI agents, Wed Nov 11 2026. No macro, syntax, notation, axiom, sorry.
-/
import Derived.Test.YtkggpdaglhnonaaChecked
import GoSem.Claim
import GoSem.ClaimJoined
import GoSem.ClaimMapViews
import Derived.JoinedTies
import Derived.KernelRfl
namespace Go.Proofs.Ytkggpdaglhnonaa
/- THE CELL 'sum', in the pinned program and in every row, IS THE sha256 OF THE DUMP (.gsa) THAT YtkggpdaglhnonaaProg.lean LOADS. Nothing in Lean hashes anything: it is a label: what it is worth is what the hold of that sum in a sandbox is worth. -/
noncomputable def Try.pinned : Pinned := { name := "ytkggpdaglhnonaa", sum := "df7b519d9b5b1a9b1d9bc04b499c46b3d14b2429fceebbfb2ac54a7c6f8ac806", checked := Try.checked }
namespace Rows
def none {H : Type} : Left H := { results := [], args := [] }

/-- 'escapementlaw6.NamesKnown': WHATEVER THE INPUT: true; the input reads as it did. -/
def namesKnownSpec : ChangeSpec := { name := "namesKnown", fn := fun _ => fun
  | [] => { results := [.lit (.bool true)], args := [] }
  | _ => none }
def namesKnownRow : OpenClaim := { program := "ytkggpdaglhnonaa", sum := "df7b519d9b5b1a9b1d9bc04b499c46b3d14b2429fceebbfb2ac54a7c6f8ac806", func := "escapement/escapementlaw6.NamesKnown", spec := "namesKnown", unfollowed := true, recurses := true, apart := false }
def NamesKnownSaid : Prop := namesKnownRow.holds Try.pinned (OpenSpec.ofChange namesKnownSpec)

/-- ITS FALSE NEIGHBOUR: 'it returns false'. Refute it at one input. -/
def namesKnownWrong : ChangeSpec := { name := "namesKnown", fn := fun _ => fun
  | [] => { results := [.lit (.bool false)], args := [] }
  | _ => none }
def NamesKnownWrongFalsely : Prop := namesKnownRow.holds Try.pinned (OpenSpec.ofChange namesKnownWrong)

/-- 'escapementlaw6.NamesTwice': WHATEVER THE INPUT: true; the input reads as it did. -/
def namesTwiceSpec : ChangeSpec := { name := "namesTwice", fn := fun _ => fun
  | [d1, d2, d3] => { results := [.lit (.bool true)], args := [d1, d2, d3] }
  | _ => none }
def namesTwiceRow : OpenClaim := { program := "ytkggpdaglhnonaa", sum := "df7b519d9b5b1a9b1d9bc04b499c46b3d14b2429fceebbfb2ac54a7c6f8ac806", func := "escapement/escapementlaw6.NamesTwice", spec := "namesTwice", unfollowed := true, recurses := true, apart := false }
def NamesTwiceSaid : Prop := namesTwiceRow.holds Try.pinned (OpenSpec.ofChange namesTwiceSpec)

/-- ITS FALSE NEIGHBOUR: 'it returns false'. Refute it at one input. -/
def namesTwiceWrong : ChangeSpec := { name := "namesTwice", fn := fun _ => fun
  | [d1, d2, d3] => { results := [.lit (.bool false)], args := [d1, d2, d3] }
  | _ => none }
def NamesTwiceWrongFalsely : Prop := namesTwiceRow.holds Try.pinned (OpenSpec.ofChange namesTwiceWrong)

/-- 'escapementlaw6.NamesAhead': WHATEVER THE INPUT: true; the input reads as it did. -/
def namesAheadSpec : ChangeSpec := { name := "namesAhead", fn := fun _ => fun
  | [d1, d2, d3] => { results := [.lit (.bool true)], args := [d1, d2, d3] }
  | _ => none }
def namesAheadRow : OpenClaim := { program := "ytkggpdaglhnonaa", sum := "df7b519d9b5b1a9b1d9bc04b499c46b3d14b2429fceebbfb2ac54a7c6f8ac806", func := "escapement/escapementlaw6.NamesAhead", spec := "namesAhead", unfollowed := true, recurses := true, apart := false }
def NamesAheadSaid : Prop := namesAheadRow.holds Try.pinned (OpenSpec.ofChange namesAheadSpec)

/-- ITS FALSE NEIGHBOUR: 'it returns false'. Refute it at one input. -/
def namesAheadWrong : ChangeSpec := { name := "namesAhead", fn := fun _ => fun
  | [d1, d2, d3] => { results := [.lit (.bool false)], args := [d1, d2, d3] }
  | _ => none }
def NamesAheadWrongFalsely : Prop := namesAheadRow.holds Try.pinned (OpenSpec.ofChange namesAheadWrong)

/-- 'escapementlaw8.ClkKnown': WHATEVER THE INPUT: true; the input reads as it did. -/
def clkKnownSpec : ChangeSpec := { name := "clkKnown", fn := fun _ => fun
  | [] => { results := [.lit (.bool true)], args := [] }
  | _ => none }
def clkKnownRow : OpenClaim := { program := "ytkggpdaglhnonaa", sum := "df7b519d9b5b1a9b1d9bc04b499c46b3d14b2429fceebbfb2ac54a7c6f8ac806", func := "escapement/escapementlaw8.ClkKnown", spec := "clkKnown", unfollowed := true, recurses := true, apart := false }
def ClkKnownSaid : Prop := clkKnownRow.holds Try.pinned (OpenSpec.ofChange clkKnownSpec)

/-- ITS FALSE NEIGHBOUR: 'it returns false'. Refute it at one input. -/
def clkKnownWrong : ChangeSpec := { name := "clkKnown", fn := fun _ => fun
  | [] => { results := [.lit (.bool false)], args := [] }
  | _ => none }
def ClkKnownWrongFalsely : Prop := clkKnownRow.holds Try.pinned (OpenSpec.ofChange clkKnownWrong)

/-- 'escapementlaw8.ClkSays': WHATEVER THE INPUT: true; the input reads as it did. -/
def clkSaysSpec : ChangeSpec := { name := "clkSays", fn := fun _ => fun
  | [d] => { results := [.lit (.bool true)], args := [d] }
  | _ => none }
def clkSaysRow : OpenClaim := { program := "ytkggpdaglhnonaa", sum := "df7b519d9b5b1a9b1d9bc04b499c46b3d14b2429fceebbfb2ac54a7c6f8ac806", func := "escapement/escapementlaw8.ClkSays", spec := "clkSays", unfollowed := true, recurses := true, apart := false }
def ClkSaysSaid : Prop := clkSaysRow.holds Try.pinned (OpenSpec.ofChange clkSaysSpec)

/-- ITS FALSE NEIGHBOUR: 'it returns false'. Refute it at one input. -/
def clkSaysWrong : ChangeSpec := { name := "clkSays", fn := fun _ => fun
  | [d] => { results := [.lit (.bool false)], args := [d] }
  | _ => none }
def ClkSaysWrongFalsely : Prop := clkSaysRow.holds Try.pinned (OpenSpec.ofChange clkSaysWrong)

/-- 'escapementlaw8.ClkDeep': WHATEVER THE INPUT: true; the input reads as it did. -/
def clkDeepSpec : ChangeSpec := { name := "clkDeep", fn := fun _ => fun
  | [d1, d2] => { results := [.lit (.bool true)], args := [d1, d2] }
  | _ => none }
def clkDeepRow : OpenClaim := { program := "ytkggpdaglhnonaa", sum := "df7b519d9b5b1a9b1d9bc04b499c46b3d14b2429fceebbfb2ac54a7c6f8ac806", func := "escapement/escapementlaw8.ClkDeep", spec := "clkDeep", unfollowed := true, recurses := true, apart := false }
def ClkDeepSaid : Prop := clkDeepRow.holds Try.pinned (OpenSpec.ofChange clkDeepSpec)

/-- ITS FALSE NEIGHBOUR: 'it returns false'. Refute it at one input. -/
def clkDeepWrong : ChangeSpec := { name := "clkDeep", fn := fun _ => fun
  | [d1, d2] => { results := [.lit (.bool false)], args := [d1, d2] }
  | _ => none }
def ClkDeepWrongFalsely : Prop := clkDeepRow.holds Try.pinned (OpenSpec.ofChange clkDeepWrong)

/-- 'escapementlaw8.ClkMerges': WHATEVER THE INPUT: true; the input reads as it did. -/
def clkMergesSpec : ChangeSpec := { name := "clkMerges", fn := fun _ => fun
  | [d1, d2, d3] => { results := [.lit (.bool true)], args := [d1, d2, d3] }
  | _ => none }
def clkMergesRow : OpenClaim := { program := "ytkggpdaglhnonaa", sum := "df7b519d9b5b1a9b1d9bc04b499c46b3d14b2429fceebbfb2ac54a7c6f8ac806", func := "escapement/escapementlaw8.ClkMerges", spec := "clkMerges", unfollowed := true, recurses := true, apart := false }
def ClkMergesSaid : Prop := clkMergesRow.holds Try.pinned (OpenSpec.ofChange clkMergesSpec)

/-- ITS FALSE NEIGHBOUR: 'it returns false'. Refute it at one input. -/
def clkMergesWrong : ChangeSpec := { name := "clkMerges", fn := fun _ => fun
  | [d1, d2, d3] => { results := [.lit (.bool false)], args := [d1, d2, d3] }
  | _ => none }
def ClkMergesWrongFalsely : Prop := clkMergesRow.holds Try.pinned (OpenSpec.ofChange clkMergesWrong)

/-- 'escapementlaw8.ClkOps': WHATEVER THE INPUT: true; the input reads as it did. -/
def clkOpsSpec : ChangeSpec := { name := "clkOps", fn := fun _ => fun
  | [d1, d2, d3] => { results := [.lit (.bool true)], args := [d1, d2, d3] }
  | _ => none }
def clkOpsRow : OpenClaim := { program := "ytkggpdaglhnonaa", sum := "df7b519d9b5b1a9b1d9bc04b499c46b3d14b2429fceebbfb2ac54a7c6f8ac806", func := "escapement/escapementlaw8.ClkOps", spec := "clkOps", unfollowed := true, recurses := true, apart := false }
def ClkOpsSaid : Prop := clkOpsRow.holds Try.pinned (OpenSpec.ofChange clkOpsSpec)

/-- ITS FALSE NEIGHBOUR: 'it returns false'. Refute it at one input. -/
def clkOpsWrong : ChangeSpec := { name := "clkOps", fn := fun _ => fun
  | [d1, d2, d3] => { results := [.lit (.bool false)], args := [d1, d2, d3] }
  | _ => none }
def ClkOpsWrongFalsely : Prop := clkOpsRow.holds Try.pinned (OpenSpec.ofChange clkOpsWrong)

/-- 'escapementlaw7.TypKnown': WHATEVER THE INPUT: true; the input reads as it did. -/
def typKnownSpec : ChangeSpec := { name := "typKnown", fn := fun _ => fun
  | [] => { results := [.lit (.bool true)], args := [] }
  | _ => none }
def typKnownRow : OpenClaim := { program := "ytkggpdaglhnonaa", sum := "df7b519d9b5b1a9b1d9bc04b499c46b3d14b2429fceebbfb2ac54a7c6f8ac806", func := "escapement/escapementlaw7.TypKnown", spec := "typKnown", unfollowed := true, recurses := true, apart := false }
def TypKnownSaid : Prop := typKnownRow.holds Try.pinned (OpenSpec.ofChange typKnownSpec)

/-- ITS FALSE NEIGHBOUR: 'it returns false'. Refute it at one input. -/
def typKnownWrong : ChangeSpec := { name := "typKnown", fn := fun _ => fun
  | [] => { results := [.lit (.bool false)], args := [] }
  | _ => none }
def TypKnownWrongFalsely : Prop := typKnownRow.holds Try.pinned (OpenSpec.ofChange typKnownWrong)

/-- 'escapementlaw7.TypSays': WHATEVER THE INPUT: true; the input reads as it did. -/
def typSaysSpec : ChangeSpec := { name := "typSays", fn := fun _ => fun
  | [d] => { results := [.lit (.bool true)], args := [d] }
  | _ => none }
def typSaysRow : OpenClaim := { program := "ytkggpdaglhnonaa", sum := "df7b519d9b5b1a9b1d9bc04b499c46b3d14b2429fceebbfb2ac54a7c6f8ac806", func := "escapement/escapementlaw7.TypSays", spec := "typSays", unfollowed := true, recurses := true, apart := false }
def TypSaysSaid : Prop := typSaysRow.holds Try.pinned (OpenSpec.ofChange typSaysSpec)

/-- ITS FALSE NEIGHBOUR: 'it returns false'. Refute it at one input. -/
def typSaysWrong : ChangeSpec := { name := "typSays", fn := fun _ => fun
  | [d] => { results := [.lit (.bool false)], args := [d] }
  | _ => none }
def TypSaysWrongFalsely : Prop := typSaysRow.holds Try.pinned (OpenSpec.ofChange typSaysWrong)

/-- 'escapementlaw7.TypOps': WHATEVER THE INPUT: true; the input reads as it did. -/
def typOpsSpec : ChangeSpec := { name := "typOps", fn := fun _ => fun
  | [d1, d2, d3] => { results := [.lit (.bool true)], args := [d1, d2, d3] }
  | _ => none }
def typOpsRow : OpenClaim := { program := "ytkggpdaglhnonaa", sum := "df7b519d9b5b1a9b1d9bc04b499c46b3d14b2429fceebbfb2ac54a7c6f8ac806", func := "escapement/escapementlaw7.TypOps", spec := "typOps", unfollowed := true, recurses := true, apart := false }
def TypOpsSaid : Prop := typOpsRow.holds Try.pinned (OpenSpec.ofChange typOpsSpec)

/-- ITS FALSE NEIGHBOUR: 'it returns false'. Refute it at one input. -/
def typOpsWrong : ChangeSpec := { name := "typOps", fn := fun _ => fun
  | [d1, d2, d3] => { results := [.lit (.bool false)], args := [d1, d2, d3] }
  | _ => none }
def TypOpsWrongFalsely : Prop := typOpsRow.holds Try.pinned (OpenSpec.ofChange typOpsWrong)

/-- 'escapementlaw7.TypCalls': WHATEVER THE INPUT: true; the input reads as it did. -/
def typCallsSpec : ChangeSpec := { name := "typCalls", fn := fun _ => fun
  | [d1, d2, d3, d4, d5, d6] => { results := [.lit (.bool true)], args := [d1, d2, d3, d4, d5, d6] }
  | _ => none }
def typCallsRow : OpenClaim := { program := "ytkggpdaglhnonaa", sum := "df7b519d9b5b1a9b1d9bc04b499c46b3d14b2429fceebbfb2ac54a7c6f8ac806", func := "escapement/escapementlaw7.TypCalls", spec := "typCalls", unfollowed := true, recurses := true, apart := false }
def TypCallsSaid : Prop := typCallsRow.holds Try.pinned (OpenSpec.ofChange typCallsSpec)

/-- ITS FALSE NEIGHBOUR: 'it returns false'. Refute it at one input. -/
def typCallsWrong : ChangeSpec := { name := "typCalls", fn := fun _ => fun
  | [d1, d2, d3, d4, d5, d6] => { results := [.lit (.bool false)], args := [d1, d2, d3, d4, d5, d6] }
  | _ => none }
def TypCallsWrongFalsely : Prop := typCallsRow.holds Try.pinned (OpenSpec.ofChange typCallsWrong)

/-- 'escapementlaw7.TypIfs': WHATEVER THE INPUT: true; the input reads as it did. -/
def typIfsSpec : ChangeSpec := { name := "typIfs", fn := fun _ => fun
  | [d1, d2, d3, d4] => { results := [.lit (.bool true)], args := [d1, d2, d3, d4] }
  | _ => none }
def typIfsRow : OpenClaim := { program := "ytkggpdaglhnonaa", sum := "df7b519d9b5b1a9b1d9bc04b499c46b3d14b2429fceebbfb2ac54a7c6f8ac806", func := "escapement/escapementlaw7.TypIfs", spec := "typIfs", unfollowed := true, recurses := true, apart := false }
def TypIfsSaid : Prop := typIfsRow.holds Try.pinned (OpenSpec.ofChange typIfsSpec)

/-- ITS FALSE NEIGHBOUR: 'it returns false'. Refute it at one input. -/
def typIfsWrong : ChangeSpec := { name := "typIfs", fn := fun _ => fun
  | [d1, d2, d3, d4] => { results := [.lit (.bool false)], args := [d1, d2, d3, d4] }
  | _ => none }
def TypIfsWrongFalsely : Prop := typIfsRow.holds Try.pinned (OpenSpec.ofChange typIfsWrong)

/-- 'escapementlaw10.CauKnown': WHATEVER THE INPUT: true; the input reads as it did. -/
def cauKnownSpec : ChangeSpec := { name := "cauKnown", fn := fun _ => fun
  | [] => { results := [.lit (.bool true)], args := [] }
  | _ => none }
def cauKnownRow : OpenClaim := { program := "ytkggpdaglhnonaa", sum := "df7b519d9b5b1a9b1d9bc04b499c46b3d14b2429fceebbfb2ac54a7c6f8ac806", func := "escapement/escapementlaw10.CauKnown", spec := "cauKnown", unfollowed := true, recurses := true, apart := false }
def CauKnownSaid : Prop := cauKnownRow.holds Try.pinned (OpenSpec.ofChange cauKnownSpec)

/-- ITS FALSE NEIGHBOUR: 'it returns false'. Refute it at one input. -/
def cauKnownWrong : ChangeSpec := { name := "cauKnown", fn := fun _ => fun
  | [] => { results := [.lit (.bool false)], args := [] }
  | _ => none }
def CauKnownWrongFalsely : Prop := cauKnownRow.holds Try.pinned (OpenSpec.ofChange cauKnownWrong)

/-- 'escapementlaw10.CauOrders': WHATEVER THE INPUT: true; the input reads as it did. -/
def cauOrdersSpec : ChangeSpec := { name := "cauOrders", fn := fun _ => fun
  | [d] => { results := [.lit (.bool true)], args := [d] }
  | _ => none }
def cauOrdersRow : OpenClaim := { program := "ytkggpdaglhnonaa", sum := "df7b519d9b5b1a9b1d9bc04b499c46b3d14b2429fceebbfb2ac54a7c6f8ac806", func := "escapement/escapementlaw10.CauOrders", spec := "cauOrders", unfollowed := true, recurses := true, apart := false }
def CauOrdersSaid : Prop := cauOrdersRow.holds Try.pinned (OpenSpec.ofChange cauOrdersSpec)

/-- ITS FALSE NEIGHBOUR: 'it returns false'. Refute it at one input. -/
def cauOrdersWrong : ChangeSpec := { name := "cauOrders", fn := fun _ => fun
  | [d] => { results := [.lit (.bool false)], args := [d] }
  | _ => none }
def CauOrdersWrongFalsely : Prop := cauOrdersRow.holds Try.pinned (OpenSpec.ofChange cauOrdersWrong)

/-- 'escapementlaw10.CauRings': WHATEVER THE INPUT: true; the input reads as it did. -/
def cauRingsSpec : ChangeSpec := { name := "cauRings", fn := fun _ => fun
  | [d1, d2, d3] => { results := [.lit (.bool true)], args := [d1, d2, d3] }
  | _ => none }
def cauRingsRow : OpenClaim := { program := "ytkggpdaglhnonaa", sum := "df7b519d9b5b1a9b1d9bc04b499c46b3d14b2429fceebbfb2ac54a7c6f8ac806", func := "escapement/escapementlaw10.CauRings", spec := "cauRings", unfollowed := true, recurses := true, apart := false }
def CauRingsSaid : Prop := cauRingsRow.holds Try.pinned (OpenSpec.ofChange cauRingsSpec)

/-- ITS FALSE NEIGHBOUR: 'it returns false'. Refute it at one input. -/
def cauRingsWrong : ChangeSpec := { name := "cauRings", fn := fun _ => fun
  | [d1, d2, d3] => { results := [.lit (.bool false)], args := [d1, d2, d3] }
  | _ => none }
def CauRingsWrongFalsely : Prop := cauRingsRow.holds Try.pinned (OpenSpec.ofChange cauRingsWrong)

/- THE SECOND FORM. 'bulk': how many values and letters a reading holds, each counted each time it is reached (what is shared counts as often as it is met; a slice's spare places count too). A statement '..UptoSaid' is the law's where the arguments, and the package variables that the reading takes, are together of bulk at most 1048576: NARROWER than '..Said'. Prove '..Said' where nothing that the law and all that it calls make is longer than what came in: it says more and counts as full. Else prove '..UptoSaid'. A law counts once. -/
mutual
def uptoBulk {H : Type} : DataW H → Nat
  | .lit (.string bytes) => bytes.length + 1
  | .lit _ => 1
  | .nil => 1
  | .ptr d => uptoBulk d + 1
  | .slice elems spare => uptoBulkAll elems + uptoBulkAll spare + 1
  | .agg parts => uptoBulkAll parts + 1
  | .iface _ d => uptoBulk d + 1
  | .map entries => uptoBulkEntries entries + 1
  | .held _ => 1
def uptoBulkAll {H : Type} : List (DataW H) → Nat
  | [] => 0
  | d :: r => uptoBulk d + uptoBulkAll r
def uptoBulkEntries {H : Type} : List (Lit × DataW H) → Nat
  | [] => 0
  | x :: r => uptoBulkEntry x + uptoBulkEntries r
def uptoBulkEntry {H : Type} : Lit × DataW H → Nat
  | (.string bytes, d) => bytes.length + uptoBulk d + 1
  | (_, d) => uptoBulk d + 1
 end
def uptoSmall : (H : Type) → List (DataW H) → Bool := fun _ ds => decide (uptoBulkAll ds ≤ 1048576)
def OpenSpec.upto (s : _root_.Go.ChangeSpec) : _root_.Go.OpenSpec := { _root_.Go.OpenSpec.ofChange s with cond := some uptoSmall }

/-- 'escapementlaw6.NamesKnown', WHERE WHAT IT READS IS OF BULK AT MOST 1048576: true; the input reads as it did. -/
def namesKnownUptoRow : OpenClaim := { program := "ytkggpdaglhnonaa", sum := "df7b519d9b5b1a9b1d9bc04b499c46b3d14b2429fceebbfb2ac54a7c6f8ac806", func := "escapement/escapementlaw6.NamesKnown", spec := "namesKnown", unfollowed := true, recurses := true, apart := false, narrowed := true }
def NamesKnownUptoSaid : Prop := namesKnownUptoRow.holds Try.pinned (OpenSpec.upto namesKnownSpec)

/-- 'escapementlaw6.NamesTwice', WHERE WHAT IT READS IS OF BULK AT MOST 1048576: true; the input reads as it did. -/
def namesTwiceUptoRow : OpenClaim := { program := "ytkggpdaglhnonaa", sum := "df7b519d9b5b1a9b1d9bc04b499c46b3d14b2429fceebbfb2ac54a7c6f8ac806", func := "escapement/escapementlaw6.NamesTwice", spec := "namesTwice", unfollowed := true, recurses := true, apart := false, narrowed := true }
def NamesTwiceUptoSaid : Prop := namesTwiceUptoRow.holds Try.pinned (OpenSpec.upto namesTwiceSpec)

/-- 'escapementlaw6.NamesAhead', WHERE WHAT IT READS IS OF BULK AT MOST 1048576: true; the input reads as it did. -/
def namesAheadUptoRow : OpenClaim := { program := "ytkggpdaglhnonaa", sum := "df7b519d9b5b1a9b1d9bc04b499c46b3d14b2429fceebbfb2ac54a7c6f8ac806", func := "escapement/escapementlaw6.NamesAhead", spec := "namesAhead", unfollowed := true, recurses := true, apart := false, narrowed := true }
def NamesAheadUptoSaid : Prop := namesAheadUptoRow.holds Try.pinned (OpenSpec.upto namesAheadSpec)

/-- 'escapementlaw8.ClkKnown', WHERE WHAT IT READS IS OF BULK AT MOST 1048576: true; the input reads as it did. -/
def clkKnownUptoRow : OpenClaim := { program := "ytkggpdaglhnonaa", sum := "df7b519d9b5b1a9b1d9bc04b499c46b3d14b2429fceebbfb2ac54a7c6f8ac806", func := "escapement/escapementlaw8.ClkKnown", spec := "clkKnown", unfollowed := true, recurses := true, apart := false, narrowed := true }
def ClkKnownUptoSaid : Prop := clkKnownUptoRow.holds Try.pinned (OpenSpec.upto clkKnownSpec)

/-- 'escapementlaw8.ClkSays', WHERE WHAT IT READS IS OF BULK AT MOST 1048576: true; the input reads as it did. -/
def clkSaysUptoRow : OpenClaim := { program := "ytkggpdaglhnonaa", sum := "df7b519d9b5b1a9b1d9bc04b499c46b3d14b2429fceebbfb2ac54a7c6f8ac806", func := "escapement/escapementlaw8.ClkSays", spec := "clkSays", unfollowed := true, recurses := true, apart := false, narrowed := true }
def ClkSaysUptoSaid : Prop := clkSaysUptoRow.holds Try.pinned (OpenSpec.upto clkSaysSpec)

/-- 'escapementlaw8.ClkDeep', WHERE WHAT IT READS IS OF BULK AT MOST 1048576: true; the input reads as it did. -/
def clkDeepUptoRow : OpenClaim := { program := "ytkggpdaglhnonaa", sum := "df7b519d9b5b1a9b1d9bc04b499c46b3d14b2429fceebbfb2ac54a7c6f8ac806", func := "escapement/escapementlaw8.ClkDeep", spec := "clkDeep", unfollowed := true, recurses := true, apart := false, narrowed := true }
def ClkDeepUptoSaid : Prop := clkDeepUptoRow.holds Try.pinned (OpenSpec.upto clkDeepSpec)

/-- 'escapementlaw8.ClkMerges', WHERE WHAT IT READS IS OF BULK AT MOST 1048576: true; the input reads as it did. -/
def clkMergesUptoRow : OpenClaim := { program := "ytkggpdaglhnonaa", sum := "df7b519d9b5b1a9b1d9bc04b499c46b3d14b2429fceebbfb2ac54a7c6f8ac806", func := "escapement/escapementlaw8.ClkMerges", spec := "clkMerges", unfollowed := true, recurses := true, apart := false, narrowed := true }
def ClkMergesUptoSaid : Prop := clkMergesUptoRow.holds Try.pinned (OpenSpec.upto clkMergesSpec)

/-- 'escapementlaw8.ClkOps', WHERE WHAT IT READS IS OF BULK AT MOST 1048576: true; the input reads as it did. -/
def clkOpsUptoRow : OpenClaim := { program := "ytkggpdaglhnonaa", sum := "df7b519d9b5b1a9b1d9bc04b499c46b3d14b2429fceebbfb2ac54a7c6f8ac806", func := "escapement/escapementlaw8.ClkOps", spec := "clkOps", unfollowed := true, recurses := true, apart := false, narrowed := true }
def ClkOpsUptoSaid : Prop := clkOpsUptoRow.holds Try.pinned (OpenSpec.upto clkOpsSpec)

/-- 'escapementlaw7.TypKnown', WHERE WHAT IT READS IS OF BULK AT MOST 1048576: true; the input reads as it did. -/
def typKnownUptoRow : OpenClaim := { program := "ytkggpdaglhnonaa", sum := "df7b519d9b5b1a9b1d9bc04b499c46b3d14b2429fceebbfb2ac54a7c6f8ac806", func := "escapement/escapementlaw7.TypKnown", spec := "typKnown", unfollowed := true, recurses := true, apart := false, narrowed := true }
def TypKnownUptoSaid : Prop := typKnownUptoRow.holds Try.pinned (OpenSpec.upto typKnownSpec)

/-- 'escapementlaw7.TypSays', WHERE WHAT IT READS IS OF BULK AT MOST 1048576: true; the input reads as it did. -/
def typSaysUptoRow : OpenClaim := { program := "ytkggpdaglhnonaa", sum := "df7b519d9b5b1a9b1d9bc04b499c46b3d14b2429fceebbfb2ac54a7c6f8ac806", func := "escapement/escapementlaw7.TypSays", spec := "typSays", unfollowed := true, recurses := true, apart := false, narrowed := true }
def TypSaysUptoSaid : Prop := typSaysUptoRow.holds Try.pinned (OpenSpec.upto typSaysSpec)

/-- 'escapementlaw7.TypOps', WHERE WHAT IT READS IS OF BULK AT MOST 1048576: true; the input reads as it did. -/
def typOpsUptoRow : OpenClaim := { program := "ytkggpdaglhnonaa", sum := "df7b519d9b5b1a9b1d9bc04b499c46b3d14b2429fceebbfb2ac54a7c6f8ac806", func := "escapement/escapementlaw7.TypOps", spec := "typOps", unfollowed := true, recurses := true, apart := false, narrowed := true }
def TypOpsUptoSaid : Prop := typOpsUptoRow.holds Try.pinned (OpenSpec.upto typOpsSpec)

/-- 'escapementlaw7.TypCalls', WHERE WHAT IT READS IS OF BULK AT MOST 1048576: true; the input reads as it did. -/
def typCallsUptoRow : OpenClaim := { program := "ytkggpdaglhnonaa", sum := "df7b519d9b5b1a9b1d9bc04b499c46b3d14b2429fceebbfb2ac54a7c6f8ac806", func := "escapement/escapementlaw7.TypCalls", spec := "typCalls", unfollowed := true, recurses := true, apart := false, narrowed := true }
def TypCallsUptoSaid : Prop := typCallsUptoRow.holds Try.pinned (OpenSpec.upto typCallsSpec)

/-- 'escapementlaw7.TypIfs', WHERE WHAT IT READS IS OF BULK AT MOST 1048576: true; the input reads as it did. -/
def typIfsUptoRow : OpenClaim := { program := "ytkggpdaglhnonaa", sum := "df7b519d9b5b1a9b1d9bc04b499c46b3d14b2429fceebbfb2ac54a7c6f8ac806", func := "escapement/escapementlaw7.TypIfs", spec := "typIfs", unfollowed := true, recurses := true, apart := false, narrowed := true }
def TypIfsUptoSaid : Prop := typIfsUptoRow.holds Try.pinned (OpenSpec.upto typIfsSpec)

/-- 'escapementlaw10.CauKnown', WHERE WHAT IT READS IS OF BULK AT MOST 1048576: true; the input reads as it did. -/
def cauKnownUptoRow : OpenClaim := { program := "ytkggpdaglhnonaa", sum := "df7b519d9b5b1a9b1d9bc04b499c46b3d14b2429fceebbfb2ac54a7c6f8ac806", func := "escapement/escapementlaw10.CauKnown", spec := "cauKnown", unfollowed := true, recurses := true, apart := false, narrowed := true }
def CauKnownUptoSaid : Prop := cauKnownUptoRow.holds Try.pinned (OpenSpec.upto cauKnownSpec)

/-- 'escapementlaw10.CauOrders', WHERE WHAT IT READS IS OF BULK AT MOST 1048576: true; the input reads as it did. -/
def cauOrdersUptoRow : OpenClaim := { program := "ytkggpdaglhnonaa", sum := "df7b519d9b5b1a9b1d9bc04b499c46b3d14b2429fceebbfb2ac54a7c6f8ac806", func := "escapement/escapementlaw10.CauOrders", spec := "cauOrders", unfollowed := true, recurses := true, apart := false, narrowed := true }
def CauOrdersUptoSaid : Prop := cauOrdersUptoRow.holds Try.pinned (OpenSpec.upto cauOrdersSpec)

/-- 'escapementlaw10.CauRings', WHERE WHAT IT READS IS OF BULK AT MOST 1048576: true; the input reads as it did. -/
def cauRingsUptoRow : OpenClaim := { program := "ytkggpdaglhnonaa", sum := "df7b519d9b5b1a9b1d9bc04b499c46b3d14b2429fceebbfb2ac54a7c6f8ac806", func := "escapement/escapementlaw10.CauRings", spec := "cauRings", unfollowed := true, recurses := true, apart := false, narrowed := true }
def CauRingsUptoSaid : Prop := cauRingsUptoRow.holds Try.pinned (OpenSpec.upto cauRingsSpec)

end Rows
end Go.Proofs.Ytkggpdaglhnonaa
