/-
  DERIVED. GIVEN WITH THE SEED: THE CARDS: each row of YtmhjnkeflbklpaaDoorRows.lean that lists a variable, with what it lists TIED to the program's text (the seventh form; the later family's looks); each row that meets fmt, with fmt's text TOLD by the authors' own Lean function (tested against real Go, not proved from fmt's source: count such statements apart). THE CARD IS WHAT COUNTS. Prove the row's statement (the work); the ties are given (YtmhjnkeflbklpaaDoorTie.lean); close each card by the builder's one call (the guide's Derived/Test/ToyasCard.lean, 'card_holds'). Laid BY PROGRAM, IN A SANDBOX (cutbox-door.mjs). By AI agents, Wed Nov 11 2026. No macro, syntax, notation, axiom, sorry.
-/
import Derived.Test.YtmhjnkeflbklpaaDoorRows
import GoSem.ClaimSeven
namespace Go.Proofs.YtmhjnkeflbklpaaDoor
namespace Rows

/-- THE TIED CARD OF 'pannierlaw02.AddrMeets'. -/
def addrMeetsCard : Claim7 := { stood := { row := addrMeetsRow, standIns := [], harness := (true, "63ad3cb616a476890eccaecf18f659a0bbb2055cbec76e14d7ea8d7c193aad81"), looks := true }, kinds := [], alts := [], laidByText := true, laidKinds := [.data, .data, .data], laidTests := true, laidLooks := .later }
def AddrMeetsCardSaid : Prop := Claim7.holds Tryd.pinned (.plain (OpenSpec.ofChange addrMeetsSpec)) addrMeetsCard

/-- THE TIED CARD OF 'pannierlaw02.AddrOrder'. -/
def addrOrderCard : Claim7 := { stood := { row := addrOrderRow, standIns := [], harness := (true, "63ad3cb616a476890eccaecf18f659a0bbb2055cbec76e14d7ea8d7c193aad81"), looks := true }, kinds := [], alts := [], laidByText := true, laidKinds := [.data, .data, .data], laidTests := true, laidLooks := .later }
def AddrOrderCardSaid : Prop := Claim7.holds Tryd.pinned (.plain (OpenSpec.ofChange addrOrderSpec)) addrOrderCard

/-- THE TIED CARD OF 'pannierlaw03.ValueAs'. -/
def valueAsCard : Claim7 := { stood := { row := valueAsRow, standIns := [], harness := (true, "63ad3cb616a476890eccaecf18f659a0bbb2055cbec76e14d7ea8d7c193aad81"), looks := true }, kinds := [], alts := [], laidByText := true, laidKinds := [.data, .data, .data, .sentinel, .sentinel], laidTests := true, laidLooks := .later }
def ValueAsCardSaid : Prop := Claim7.holds Tryd.pinned (.plain (OpenSpec.ofChange valueAsSpec)) valueAsCard

/-- THE SECOND FORM's CARD OF 'pannierlaw02.AddrMeets'. -/
def addrMeetsUptoCard : Claim7 := { stood := { row := addrMeetsUptoRow, standIns := [], harness := (true, "63ad3cb616a476890eccaecf18f659a0bbb2055cbec76e14d7ea8d7c193aad81"), looks := true }, kinds := [], alts := [], laidByText := true, laidKinds := [.data, .data, .data], laidTests := true, laidLooks := .later }
def AddrMeetsUptoCardSaid : Prop := Claim7.holds Tryd.pinned (.plain (OpenSpec.upto addrMeetsSpec)) addrMeetsUptoCard

/-- THE SECOND FORM's CARD OF 'pannierlaw02.AddrOrder'. -/
def addrOrderUptoCard : Claim7 := { stood := { row := addrOrderUptoRow, standIns := [], harness := (true, "63ad3cb616a476890eccaecf18f659a0bbb2055cbec76e14d7ea8d7c193aad81"), looks := true }, kinds := [], alts := [], laidByText := true, laidKinds := [.data, .data, .data], laidTests := true, laidLooks := .later }
def AddrOrderUptoCardSaid : Prop := Claim7.holds Tryd.pinned (.plain (OpenSpec.upto addrOrderSpec)) addrOrderUptoCard

/-- THE SECOND FORM's CARD OF 'pannierlaw03.ValueAs'. -/
def valueAsUptoCard : Claim7 := { stood := { row := valueAsUptoRow, standIns := [], harness := (true, "63ad3cb616a476890eccaecf18f659a0bbb2055cbec76e14d7ea8d7c193aad81"), looks := true }, kinds := [], alts := [], laidByText := true, laidKinds := [.data, .data, .data, .sentinel, .sentinel], laidTests := true, laidLooks := .later }
def ValueAsUptoCardSaid : Prop := Claim7.holds Tryd.pinned (.plain (OpenSpec.upto valueAsSpec)) valueAsUptoCard
end Rows
end Go.Proofs.YtmhjnkeflbklpaaDoor
