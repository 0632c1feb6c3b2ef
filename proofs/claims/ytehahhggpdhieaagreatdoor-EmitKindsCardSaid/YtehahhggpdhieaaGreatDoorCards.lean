/-
  DERIVED. GIVEN WITH THE SEED: THE CARDS: each row of YtehahhggpdhieaaGreatDoorRows.lean that lists a variable, with what it lists TIED to the program's text (the seventh form; the later family's looks); each row that meets fmt, with fmt's text TOLD by the authors' own Lean function (tested against real Go, not proved from fmt's source: count such statements apart). THE CARD IS WHAT COUNTS. Prove the row's statement (the work); the ties are given (YtehahhggpdhieaaGreatDoorTie.lean); close each card by the builder's one call (the guide's Derived/Test/ToyasCard.lean, 'card_holds'). Laid BY PROGRAM, IN A SANDBOX (cutbox-door.mjs). By AI agents, Wed Nov 11 2026. No macro, syntax, notation, axiom, sorry.
-/
import Derived.Test.YtehahhggpdhieaaGreatDoorRows
import GoSem.ClaimSeven
namespace Go.Proofs.YtehahhggpdhieaaGreatDoor
namespace Rows

/-- THE TIED CARD OF 'escapementlaw13.FlatMeans'. -/
def flatMeansCard : Claim7 := { stood := { row := flatMeansRow, standIns := [], harness := (true, "ea6996639465d0de482fa28c91c3a11b06981a352c93bb0c16bdac20a635faef"), looks := false }, kinds := [], alts := [], laidByText := true, laidKinds := [.data, .data, .data], laidTests := true, laidLooks := .later }
def FlatMeansCardSaid : Prop := Claim7.holds Tryz.pinned (.plain (OpenSpec.ofChange flatMeansSpec)) flatMeansCard

/-- THE TIED CARD OF 'escapementlaw15.EmitMeans'. -/
def emitMeansCard : Claim7 := { stood := { row := emitMeansRow, standIns := [], harness := (true, "ea6996639465d0de482fa28c91c3a11b06981a352c93bb0c16bdac20a635faef"), looks := false }, kinds := [], alts := [], laidByText := true, laidKinds := [.data, .data, .data], laidTests := true, laidLooks := .later }
def EmitMeansCardSaid : Prop := Claim7.holds Tryz.pinned (.plain (OpenSpec.ofChange emitMeansSpec)) emitMeansCard

/-- THE TIED CARD OF 'escapementlaw15.EmitKinds'. -/
def emitKindsCard : Claim7 := { stood := { row := emitKindsRow, standIns := [], harness := (true, "ea6996639465d0de482fa28c91c3a11b06981a352c93bb0c16bdac20a635faef"), looks := false }, kinds := [], alts := [], laidByText := true, laidKinds := [.data, .data, .data], laidTests := true, laidLooks := .later }
def EmitKindsCardSaid : Prop := Claim7.holds Tryz.pinned (.plain (OpenSpec.ofChange emitKindsSpec)) emitKindsCard

/-- THE SECOND FORM's CARD OF 'escapementlaw13.FlatMeans'. -/
def flatMeansUptoCard : Claim7 := { stood := { row := flatMeansUptoRow, standIns := [], harness := (true, "ea6996639465d0de482fa28c91c3a11b06981a352c93bb0c16bdac20a635faef"), looks := false }, kinds := [], alts := [], laidByText := true, laidKinds := [.data, .data, .data], laidTests := true, laidLooks := .later }
def FlatMeansUptoCardSaid : Prop := Claim7.holds Tryz.pinned (.plain (OpenSpec.upto flatMeansSpec)) flatMeansUptoCard

/-- THE SECOND FORM's CARD OF 'escapementlaw15.EmitMeans'. -/
def emitMeansUptoCard : Claim7 := { stood := { row := emitMeansUptoRow, standIns := [], harness := (true, "ea6996639465d0de482fa28c91c3a11b06981a352c93bb0c16bdac20a635faef"), looks := false }, kinds := [], alts := [], laidByText := true, laidKinds := [.data, .data, .data], laidTests := true, laidLooks := .later }
def EmitMeansUptoCardSaid : Prop := Claim7.holds Tryz.pinned (.plain (OpenSpec.upto emitMeansSpec)) emitMeansUptoCard

/-- THE SECOND FORM's CARD OF 'escapementlaw15.EmitKinds'. -/
def emitKindsUptoCard : Claim7 := { stood := { row := emitKindsUptoRow, standIns := [], harness := (true, "ea6996639465d0de482fa28c91c3a11b06981a352c93bb0c16bdac20a635faef"), looks := false }, kinds := [], alts := [], laidByText := true, laidKinds := [.data, .data, .data], laidTests := true, laidLooks := .later }
def EmitKindsUptoCardSaid : Prop := Claim7.holds Tryz.pinned (.plain (OpenSpec.upto emitKindsSpec)) emitKindsUptoCard
end Rows
end Go.Proofs.YtehahhggpdhieaaGreatDoor
