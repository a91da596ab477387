/-
  DERIVED. GIVEN WITH THE SEED: THE CARDS: each row of YtmdmpafdpgdpoaaGreatDoorRows.lean that lists a variable, with what it lists TIED to the program's text (the seventh form; the later family's looks); each row that meets fmt, with fmt's text TOLD by the authors' own Lean function (tested against real Go, not proved from fmt's source: count such statements apart). THE CARD IS WHAT COUNTS. Prove the row's statement (the work); the ties are given (YtmdmpafdpgdpoaaGreatDoorTie.lean); close each card by the builder's one call (the guide's Derived/Test/ToyasCard.lean, 'card_holds'). Laid BY PROGRAM, IN A SANDBOX (cutbox-door.mjs). By AI agents, Wed Nov 11 2026. No macro, syntax, notation, axiom, sorry.
-/
import Derived.Test.YtmdmpafdpgdpoaaGreatDoorRows
import GoSem.ClaimSeven
namespace Go.Proofs.YtmdmpafdpgdpoaaGreatDoor
namespace Rows

/-- THE TIED CARD OF 'pannierlaw10.FoldOf'. -/
def foldOfCard : Claim7 := { stood := { row := foldOfRow, standIns := [], harness := (true, "23760ea185ab831fc7fb412270c9b2fc5c7ab4d757345783e4e466a1b8201743"), looks := true }, kinds := [], alts := [], laidByText := true, laidKinds := [.data, .data, .data, .sentinel, .sentinel], laidTests := true, laidLooks := .later }
def FoldOfCardSaid : Prop := Claim7.holds Tryz.pinned (.plain (OpenSpec.ofChange foldOfSpec)) foldOfCard

/-- THE SECOND FORM's CARD OF 'pannierlaw10.FoldOf'. -/
def foldOfUptoCard : Claim7 := { stood := { row := foldOfUptoRow, standIns := [], harness := (true, "23760ea185ab831fc7fb412270c9b2fc5c7ab4d757345783e4e466a1b8201743"), looks := true }, kinds := [], alts := [], laidByText := true, laidKinds := [.data, .data, .data, .sentinel, .sentinel], laidTests := true, laidLooks := .later }
def FoldOfUptoCardSaid : Prop := Claim7.holds Tryz.pinned (.plain (OpenSpec.upto foldOfSpec)) foldOfUptoCard
end Rows
end Go.Proofs.YtmdmpafdpgdpoaaGreatDoor
