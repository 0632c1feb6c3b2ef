/-
  DERIVED. GIVEN WITH THE SEED: THE CARDS: each row of YtgccjneplchojaaGreatDoorRows.lean that lists a variable, with what it lists TIED to the program's text (the seventh form; the later family's looks); each row that meets fmt, with fmt's text TOLD by the authors' own Lean function (tested against real Go, not proved from fmt's source: count such statements apart). THE CARD IS WHAT COUNTS. Prove the row's statement (the work); the ties are given (YtgccjneplchojaaGreatDoorTie.lean); close each card by the builder's one call (the guide's Derived/Test/ToyasCard.lean, 'card_holds'). Laid BY PROGRAM, IN A SANDBOX (cutbox-door.mjs). By AI agents, Wed Nov 11 2026. No macro, syntax, notation, axiom, sorry.
-/
import Derived.Test.YtgccjneplchojaaGreatDoorRows
import GoSem.ClaimSeven
namespace Go.Proofs.YtgccjneplchojaaGreatDoor
namespace Rows

/-- THE TIED CARD OF 'escapementlaw13.FlatKnown'. -/
def flatKnownCard : Claim7 := { stood := { row := flatKnownRow, standIns := [], harness := (true, "1530ae8637ca5ade7b2f74a986931f074fbb317665274085be2655bf82a630ea"), looks := false }, kinds := [], alts := [], laidByText := true, laidKinds := [.data, .data, .data], laidTests := true, laidLooks := .later }
def FlatKnownCardSaid : Prop := Claim7.holds Tryz.pinned (.plain (OpenSpec.ofChange flatKnownSpec)) flatKnownCard

/-- THE TIED CARD OF 'escapementlaw13.FlatMeans'. -/
def flatMeansCard : Claim7 := { stood := { row := flatMeansRow, standIns := [], harness := (true, "1530ae8637ca5ade7b2f74a986931f074fbb317665274085be2655bf82a630ea"), looks := false }, kinds := [], alts := [], laidByText := true, laidKinds := [.data, .data, .data], laidTests := true, laidLooks := .later }
def FlatMeansCardSaid : Prop := Claim7.holds Tryz.pinned (.plain (OpenSpec.ofChange flatMeansSpec)) flatMeansCard

/-- THE TIED CARD OF 'escapementlaw13.FlatCounts'. -/
def flatCountsCard : Claim7 := { stood := { row := flatCountsRow, standIns := [], harness := (true, "1530ae8637ca5ade7b2f74a986931f074fbb317665274085be2655bf82a630ea"), looks := false }, kinds := [], alts := [], laidByText := true, laidKinds := [.data, .data, .data], laidTests := true, laidLooks := .later }
def FlatCountsCardSaid : Prop := Claim7.holds Tryz.pinned (.plain (OpenSpec.ofChange flatCountsSpec)) flatCountsCard

/-- THE TIED CARD OF 'escapementlaw15.EmitKnown'. -/
def emitKnownCard : Claim7 := { stood := { row := emitKnownRow, standIns := [], harness := (true, "1530ae8637ca5ade7b2f74a986931f074fbb317665274085be2655bf82a630ea"), looks := false }, kinds := [], alts := [], laidByText := true, laidKinds := [.data, .data, .data], laidTests := true, laidLooks := .later }
def EmitKnownCardSaid : Prop := Claim7.holds Tryz.pinned (.plain (OpenSpec.ofChange emitKnownSpec)) emitKnownCard

/-- THE TIED CARD OF 'escapementlaw15.EmitMeans'. -/
def emitMeansCard : Claim7 := { stood := { row := emitMeansRow, standIns := [], harness := (true, "1530ae8637ca5ade7b2f74a986931f074fbb317665274085be2655bf82a630ea"), looks := false }, kinds := [], alts := [], laidByText := true, laidKinds := [.data, .data, .data], laidTests := true, laidLooks := .later }
def EmitMeansCardSaid : Prop := Claim7.holds Tryz.pinned (.plain (OpenSpec.ofChange emitMeansSpec)) emitMeansCard

/-- THE TIED CARD OF 'escapementlaw15.EmitKinds'. -/
def emitKindsCard : Claim7 := { stood := { row := emitKindsRow, standIns := [], harness := (true, "1530ae8637ca5ade7b2f74a986931f074fbb317665274085be2655bf82a630ea"), looks := false }, kinds := [], alts := [], laidByText := true, laidKinds := [.data, .data, .data], laidTests := true, laidLooks := .later }
def EmitKindsCardSaid : Prop := Claim7.holds Tryz.pinned (.plain (OpenSpec.ofChange emitKindsSpec)) emitKindsCard

/-- THE TIED CARD OF 'escapementlaw15.EmitDelays'. -/
def emitDelaysCard : Claim7 := { stood := { row := emitDelaysRow, standIns := [], harness := (true, "1530ae8637ca5ade7b2f74a986931f074fbb317665274085be2655bf82a630ea"), looks := false }, kinds := [], alts := [], laidByText := true, laidKinds := [.data, .data, .data], laidTests := true, laidLooks := .later }
def EmitDelaysCardSaid : Prop := Claim7.holds Tryz.pinned (.plain (OpenSpec.ofChange emitDelaysSpec)) emitDelaysCard

/-- THE SECOND FORM's CARD OF 'escapementlaw13.FlatKnown'. -/
def flatKnownUptoCard : Claim7 := { stood := { row := flatKnownUptoRow, standIns := [], harness := (true, "1530ae8637ca5ade7b2f74a986931f074fbb317665274085be2655bf82a630ea"), looks := false }, kinds := [], alts := [], laidByText := true, laidKinds := [.data, .data, .data], laidTests := true, laidLooks := .later }
def FlatKnownUptoCardSaid : Prop := Claim7.holds Tryz.pinned (.plain (OpenSpec.upto flatKnownSpec)) flatKnownUptoCard

/-- THE SECOND FORM's CARD OF 'escapementlaw13.FlatMeans'. -/
def flatMeansUptoCard : Claim7 := { stood := { row := flatMeansUptoRow, standIns := [], harness := (true, "1530ae8637ca5ade7b2f74a986931f074fbb317665274085be2655bf82a630ea"), looks := false }, kinds := [], alts := [], laidByText := true, laidKinds := [.data, .data, .data], laidTests := true, laidLooks := .later }
def FlatMeansUptoCardSaid : Prop := Claim7.holds Tryz.pinned (.plain (OpenSpec.upto flatMeansSpec)) flatMeansUptoCard

/-- THE SECOND FORM's CARD OF 'escapementlaw13.FlatCounts'. -/
def flatCountsUptoCard : Claim7 := { stood := { row := flatCountsUptoRow, standIns := [], harness := (true, "1530ae8637ca5ade7b2f74a986931f074fbb317665274085be2655bf82a630ea"), looks := false }, kinds := [], alts := [], laidByText := true, laidKinds := [.data, .data, .data], laidTests := true, laidLooks := .later }
def FlatCountsUptoCardSaid : Prop := Claim7.holds Tryz.pinned (.plain (OpenSpec.upto flatCountsSpec)) flatCountsUptoCard

/-- THE SECOND FORM's CARD OF 'escapementlaw15.EmitKnown'. -/
def emitKnownUptoCard : Claim7 := { stood := { row := emitKnownUptoRow, standIns := [], harness := (true, "1530ae8637ca5ade7b2f74a986931f074fbb317665274085be2655bf82a630ea"), looks := false }, kinds := [], alts := [], laidByText := true, laidKinds := [.data, .data, .data], laidTests := true, laidLooks := .later }
def EmitKnownUptoCardSaid : Prop := Claim7.holds Tryz.pinned (.plain (OpenSpec.upto emitKnownSpec)) emitKnownUptoCard

/-- THE SECOND FORM's CARD OF 'escapementlaw15.EmitMeans'. -/
def emitMeansUptoCard : Claim7 := { stood := { row := emitMeansUptoRow, standIns := [], harness := (true, "1530ae8637ca5ade7b2f74a986931f074fbb317665274085be2655bf82a630ea"), looks := false }, kinds := [], alts := [], laidByText := true, laidKinds := [.data, .data, .data], laidTests := true, laidLooks := .later }
def EmitMeansUptoCardSaid : Prop := Claim7.holds Tryz.pinned (.plain (OpenSpec.upto emitMeansSpec)) emitMeansUptoCard

/-- THE SECOND FORM's CARD OF 'escapementlaw15.EmitKinds'. -/
def emitKindsUptoCard : Claim7 := { stood := { row := emitKindsUptoRow, standIns := [], harness := (true, "1530ae8637ca5ade7b2f74a986931f074fbb317665274085be2655bf82a630ea"), looks := false }, kinds := [], alts := [], laidByText := true, laidKinds := [.data, .data, .data], laidTests := true, laidLooks := .later }
def EmitKindsUptoCardSaid : Prop := Claim7.holds Tryz.pinned (.plain (OpenSpec.upto emitKindsSpec)) emitKindsUptoCard

/-- THE SECOND FORM's CARD OF 'escapementlaw15.EmitDelays'. -/
def emitDelaysUptoCard : Claim7 := { stood := { row := emitDelaysUptoRow, standIns := [], harness := (true, "1530ae8637ca5ade7b2f74a986931f074fbb317665274085be2655bf82a630ea"), looks := false }, kinds := [], alts := [], laidByText := true, laidKinds := [.data, .data, .data], laidTests := true, laidLooks := .later }
def EmitDelaysUptoCardSaid : Prop := Claim7.holds Tryz.pinned (.plain (OpenSpec.upto emitDelaysSpec)) emitDelaysUptoCard
end Rows
end Go.Proofs.YtgccjneplchojaaGreatDoor
