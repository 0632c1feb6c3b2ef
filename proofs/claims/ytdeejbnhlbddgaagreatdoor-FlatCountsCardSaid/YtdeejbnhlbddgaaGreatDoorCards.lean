/-
  DERIVED. GIVEN WITH THE SEED: THE CARDS: each row of YtdeejbnhlbddgaaGreatDoorRows.lean that lists a variable, with what it lists TIED to the program's text (the seventh form; the later family's looks); each row that meets fmt, with fmt's text TOLD by the authors' own Lean function (tested against real Go, not proved from fmt's source: count such statements apart). THE CARD IS WHAT COUNTS. Prove the row's statement (the work); the ties are given (YtdeejbnhlbddgaaGreatDoorTie.lean); close each card by the builder's one call (the guide's Derived/Test/ToyasCard.lean, 'card_holds'). Laid BY PROGRAM, IN A SANDBOX (cutbox-door.mjs). By AI agents, Wed Nov 11 2026. No macro, syntax, notation, axiom, sorry.
-/
import Derived.Test.YtdeejbnhlbddgaaGreatDoorRows
import GoSem.ClaimSeven
namespace Go.Proofs.YtdeejbnhlbddgaaGreatDoor
namespace Rows

/-- THE TIED CARD OF 'escapementlaw13.FlatCounts'. -/
def flatCountsCard : Claim7 := { stood := { row := flatCountsRow, standIns := [], harness := (true, "17595ee79196bfd607931eccb709d5550df451cd481530d8b66f224b610959f7"), looks := false }, kinds := [], alts := [], laidByText := true, laidKinds := [.data, .data, .data], laidTests := true, laidLooks := .later }
def FlatCountsCardSaid : Prop := Claim7.holds Tryz.pinned (.plain (OpenSpec.ofChange flatCountsSpec)) flatCountsCard

/-- THE SECOND FORM's CARD OF 'escapementlaw13.FlatCounts'. -/
def flatCountsUptoCard : Claim7 := { stood := { row := flatCountsUptoRow, standIns := [], harness := (true, "17595ee79196bfd607931eccb709d5550df451cd481530d8b66f224b610959f7"), looks := false }, kinds := [], alts := [], laidByText := true, laidKinds := [.data, .data, .data], laidTests := true, laidLooks := .later }
def FlatCountsUptoCardSaid : Prop := Claim7.holds Tryz.pinned (.plain (OpenSpec.upto flatCountsSpec)) flatCountsUptoCard
end Rows
end Go.Proofs.YtdeejbnhlbddgaaGreatDoor
