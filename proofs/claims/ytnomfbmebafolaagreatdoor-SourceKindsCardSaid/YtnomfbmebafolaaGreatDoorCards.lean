/-
  DERIVED. GIVEN WITH THE SEED: THE CARDS: each row of YtnomfbmebafolaaGreatDoorRows.lean that lists a variable, with what it lists TIED to the program's text (the seventh form; the later family's looks); each row that meets fmt, with fmt's text TOLD by the authors' own Lean function (tested against real Go, not proved from fmt's source: count such statements apart). THE CARD IS WHAT COUNTS. Prove the row's statement (the work); the ties are given (YtnomfbmebafolaaGreatDoorTie.lean); close each card by the builder's one call (the guide's Derived/Test/ToyasCard.lean, 'card_holds'). Laid BY PROGRAM, IN A SANDBOX (cutbox-door.mjs). By AI agents, Wed Nov 11 2026. No macro, syntax, notation, axiom, sorry.
-/
import Derived.Test.YtnomfbmebafolaaGreatDoorRows
import GoSem.ClaimSeven
namespace Go.Proofs.YtnomfbmebafolaaGreatDoor
namespace Rows

/-- THE TIED CARD OF 'pannierlaw06.PrintTight'. -/
def printTightCard : Claim7 := { stood := { row := printTightRow, standIns := [], harness := (true, "dc28c5df34fa17af722982420f5f8e1b8da23d4f7ffdf902341d3c4cb6cbef2c"), looks := true }, kinds := [], alts := [], laidByText := true, laidKinds := [.data, .data, .data, .data, .handle, .sentinel, .sentinel, .pinned], laidTests := true, laidLooks := .later }
def PrintTightCardSaid : Prop := Claim7.holds Tryz.pinned (.plain (OpenSpec.ofChange printTightSpec)) printTightCard

/-- THE TIED CARD OF 'pannierlaw07.SourceKinds'. -/
def sourceKindsCard : Claim7 := { stood := { row := sourceKindsRow, standIns := [], harness := (true, "dc28c5df34fa17af722982420f5f8e1b8da23d4f7ffdf902341d3c4cb6cbef2c"), looks := true }, kinds := [], alts := [], laidByText := true, laidKinds := [.data, .data, .data, .data, .handle, .sentinel, .sentinel, .sentinel, .pinned], laidTests := true, laidLooks := .later }
def SourceKindsCardSaid : Prop := Claim7.holds Tryz.pinned (.plain (OpenSpec.ofChange sourceKindsSpec)) sourceKindsCard

/-- THE SECOND FORM's CARD OF 'pannierlaw06.PrintTight'. -/
def printTightUptoCard : Claim7 := { stood := { row := printTightUptoRow, standIns := [], harness := (true, "dc28c5df34fa17af722982420f5f8e1b8da23d4f7ffdf902341d3c4cb6cbef2c"), looks := true }, kinds := [], alts := [], laidByText := true, laidKinds := [.data, .data, .data, .data, .handle, .sentinel, .sentinel, .pinned], laidTests := true, laidLooks := .later }
def PrintTightUptoCardSaid : Prop := Claim7.holds Tryz.pinned (.plain (OpenSpec.upto printTightSpec)) printTightUptoCard

/-- THE SECOND FORM's CARD OF 'pannierlaw07.SourceKinds'. -/
def sourceKindsUptoCard : Claim7 := { stood := { row := sourceKindsUptoRow, standIns := [], harness := (true, "dc28c5df34fa17af722982420f5f8e1b8da23d4f7ffdf902341d3c4cb6cbef2c"), looks := true }, kinds := [], alts := [], laidByText := true, laidKinds := [.data, .data, .data, .data, .handle, .sentinel, .sentinel, .sentinel, .pinned], laidTests := true, laidLooks := .later }
def SourceKindsUptoCardSaid : Prop := Claim7.holds Tryz.pinned (.plain (OpenSpec.upto sourceKindsSpec)) sourceKindsUptoCard
end Rows
end Go.Proofs.YtnomfbmebafolaaGreatDoor
