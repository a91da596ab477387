/-
  DERIVED. GIVEN WITH THE SEED: THE CARDS: each row of YtkjfcepggpdokaaRRRRDoorRows.lean that lists a variable, with what it lists TIED to the program's text (the seventh form; the later family's looks); each row that meets fmt, with fmt's text TOLD by the authors' own Lean function (tested against real Go, not proved from fmt's source: count such statements apart). THE CARD IS WHAT COUNTS. Prove the row's statement (the work); the ties are given (YtkjfcepggpdokaaRRRRDoorTie.lean); close each card by the builder's one call (the guide's Derived/Test/ToyasCard.lean, 'card_holds'). Laid BY PROGRAM, IN A SANDBOX (cutbox-door.mjs). By AI agents, Wed Nov 11 2026. No macro, syntax, notation, axiom, sorry.
-/
import Derived.Test.YtkjfcepggpdokaaRRRRDoorRows
import GoSem.ClaimSeven
namespace Go.Proofs.YtkjfcepggpdokaaRRRRDoor
namespace Rows

/-- THE TIED CARD OF 'pannierlaw03.ValueTells'. -/
def valueTellsCard : Claim7 := { stood := { row := valueTellsRow, standIns := [], harness := (true, "b09d1c35d5f957fe9679c2068302a64802e3094865a4e12e8ed8631a291569f0"), looks := true }, kinds := [], alts := [], laidByText := true, laidKinds := [.data, .data, .data, .sentinel, .sentinel], laidTests := true, laidLooks := .later }
def ValueTellsCardSaid : Prop := Claim7.holds Tryd.pinned (.plain (OpenSpec.ofChange valueTellsSpec)) valueTellsCard

/-- THE TIED CARD OF 'pannierlaw03.ValueOrder'. -/
def valueOrderCard : Claim7 := { stood := { row := valueOrderRow, standIns := [], harness := (true, "b09d1c35d5f957fe9679c2068302a64802e3094865a4e12e8ed8631a291569f0"), looks := true }, kinds := [], alts := [], laidByText := true, laidKinds := [.data, .data, .data, .sentinel, .sentinel], laidTests := true, laidLooks := .later }
def ValueOrderCardSaid : Prop := Claim7.holds Tryd.pinned (.plain (OpenSpec.ofChange valueOrderSpec)) valueOrderCard

/-- THE TIED CARD OF 'pannierlaw03.ValueAs'. -/
def valueAsCard : Claim7 := { stood := { row := valueAsRow, standIns := [], harness := (true, "b09d1c35d5f957fe9679c2068302a64802e3094865a4e12e8ed8631a291569f0"), looks := true }, kinds := [], alts := [], laidByText := true, laidKinds := [.data, .data, .data, .sentinel, .sentinel], laidTests := true, laidLooks := .later }
def ValueAsCardSaid : Prop := Claim7.holds Tryd.pinned (.plain (OpenSpec.ofChange valueAsSpec)) valueAsCard

/-- THE TIED CARD OF 'pannierlaw03.ValueTurns'. -/
def valueTurnsCard : Claim7 := { stood := { row := valueTurnsRow, standIns := [], harness := (true, "b09d1c35d5f957fe9679c2068302a64802e3094865a4e12e8ed8631a291569f0"), looks := true }, kinds := [], alts := [], laidByText := true, laidKinds := [.data, .data, .data, .sentinel, .sentinel], laidTests := true, laidLooks := .later }
def ValueTurnsCardSaid : Prop := Claim7.holds Tryd.pinned (.plain (OpenSpec.ofChange valueTurnsSpec)) valueTurnsCard

/-- THE TIED CARD OF 'pannierlaw03.ValueFaults'. -/
def valueFaultsCard : Claim7 := { stood := { row := valueFaultsRow, standIns := [], harness := (true, "b09d1c35d5f957fe9679c2068302a64802e3094865a4e12e8ed8631a291569f0"), looks := true }, kinds := [], alts := [], laidByText := true, laidKinds := [.data, .data, .data, .sentinel, .sentinel], laidTests := true, laidLooks := .later }
def ValueFaultsCardSaid : Prop := Claim7.holds Tryd.pinned (.plain (OpenSpec.ofChange valueFaultsSpec)) valueFaultsCard

/-- THE SECOND FORM's CARD OF 'pannierlaw03.ValueTells'. -/
def valueTellsUptoCard : Claim7 := { stood := { row := valueTellsUptoRow, standIns := [], harness := (true, "b09d1c35d5f957fe9679c2068302a64802e3094865a4e12e8ed8631a291569f0"), looks := true }, kinds := [], alts := [], laidByText := true, laidKinds := [.data, .data, .data, .sentinel, .sentinel], laidTests := true, laidLooks := .later }
def ValueTellsUptoCardSaid : Prop := Claim7.holds Tryd.pinned (.plain (OpenSpec.upto valueTellsSpec)) valueTellsUptoCard

/-- THE SECOND FORM's CARD OF 'pannierlaw03.ValueOrder'. -/
def valueOrderUptoCard : Claim7 := { stood := { row := valueOrderUptoRow, standIns := [], harness := (true, "b09d1c35d5f957fe9679c2068302a64802e3094865a4e12e8ed8631a291569f0"), looks := true }, kinds := [], alts := [], laidByText := true, laidKinds := [.data, .data, .data, .sentinel, .sentinel], laidTests := true, laidLooks := .later }
def ValueOrderUptoCardSaid : Prop := Claim7.holds Tryd.pinned (.plain (OpenSpec.upto valueOrderSpec)) valueOrderUptoCard

/-- THE SECOND FORM's CARD OF 'pannierlaw03.ValueAs'. -/
def valueAsUptoCard : Claim7 := { stood := { row := valueAsUptoRow, standIns := [], harness := (true, "b09d1c35d5f957fe9679c2068302a64802e3094865a4e12e8ed8631a291569f0"), looks := true }, kinds := [], alts := [], laidByText := true, laidKinds := [.data, .data, .data, .sentinel, .sentinel], laidTests := true, laidLooks := .later }
def ValueAsUptoCardSaid : Prop := Claim7.holds Tryd.pinned (.plain (OpenSpec.upto valueAsSpec)) valueAsUptoCard

/-- THE SECOND FORM's CARD OF 'pannierlaw03.ValueTurns'. -/
def valueTurnsUptoCard : Claim7 := { stood := { row := valueTurnsUptoRow, standIns := [], harness := (true, "b09d1c35d5f957fe9679c2068302a64802e3094865a4e12e8ed8631a291569f0"), looks := true }, kinds := [], alts := [], laidByText := true, laidKinds := [.data, .data, .data, .sentinel, .sentinel], laidTests := true, laidLooks := .later }
def ValueTurnsUptoCardSaid : Prop := Claim7.holds Tryd.pinned (.plain (OpenSpec.upto valueTurnsSpec)) valueTurnsUptoCard

/-- THE SECOND FORM's CARD OF 'pannierlaw03.ValueFaults'. -/
def valueFaultsUptoCard : Claim7 := { stood := { row := valueFaultsUptoRow, standIns := [], harness := (true, "b09d1c35d5f957fe9679c2068302a64802e3094865a4e12e8ed8631a291569f0"), looks := true }, kinds := [], alts := [], laidByText := true, laidKinds := [.data, .data, .data, .sentinel, .sentinel], laidTests := true, laidLooks := .later }
def ValueFaultsUptoCardSaid : Prop := Claim7.holds Tryd.pinned (.plain (OpenSpec.upto valueFaultsSpec)) valueFaultsUptoCard
end Rows
end Go.Proofs.YtkjfcepggpdokaaRRRRDoor
