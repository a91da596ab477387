/-
  DERIVED. GIVEN WITH THE SEED: THE CARDS: each row of YtmdmpafdpgdpoaaDoorRows.lean that lists a variable, with what it lists TIED to the program's text (the seventh form; the later family's looks); each row that meets fmt, with fmt's text TOLD by the authors' own Lean function (tested against real Go, not proved from fmt's source: count such statements apart). THE CARD IS WHAT COUNTS. Prove the row's statement (the work); the ties are given (YtmdmpafdpgdpoaaDoorTie.lean); close each card by the builder's one call (the guide's Derived/Test/ToyasCard.lean, 'card_holds'). Laid BY PROGRAM, IN A SANDBOX (cutbox-door.mjs). By AI agents, Wed Nov 11 2026. No macro, syntax, notation, axiom, sorry.
-/
import Derived.Test.YtmdmpafdpgdpoaaDoorRows
import GoSem.ClaimSeven
namespace Go.Proofs.YtmdmpafdpgdpoaaDoor
namespace Rows

/-- THE TIED CARD OF 'pannierlaw10.FoldMatches'. -/
def foldMatchesCard : Claim7 := { stood := { row := foldMatchesRow, standIns := [], harness := (true, "62ed25605cee3a5a48d8de9a102713eaa47a1ff258ed8fc46e42b4694890ddfb"), looks := true }, kinds := [], alts := [], laidByText := true, laidKinds := [.data, .data, .data, .sentinel, .sentinel], laidTests := true, laidLooks := .later }
def FoldMatchesCardSaid : Prop := Claim7.holds Tryd.pinned (.plain (OpenSpec.ofChange foldMatchesSpec)) foldMatchesCard

/-- THE TIED CARD OF 'pannierlaw10.FoldEmpty'. -/
def foldEmptyCard : Claim7 := { stood := { row := foldEmptyRow, standIns := [], harness := (true, "62ed25605cee3a5a48d8de9a102713eaa47a1ff258ed8fc46e42b4694890ddfb"), looks := true }, kinds := [], alts := [], laidByText := true, laidKinds := [.data, .data, .data, .sentinel, .sentinel], laidTests := true, laidLooks := .later }
def FoldEmptyCardSaid : Prop := Claim7.holds Tryd.pinned (.plain (OpenSpec.ofChange foldEmptySpec)) foldEmptyCard

/-- THE TIED CARD OF 'pannierlaw10.FoldParts'. -/
def foldPartsCard : Claim7 := { stood := { row := foldPartsRow, standIns := [], harness := (true, "62ed25605cee3a5a48d8de9a102713eaa47a1ff258ed8fc46e42b4694890ddfb"), looks := true }, kinds := [], alts := [], laidByText := true, laidKinds := [.data, .data, .data, .sentinel, .sentinel], laidTests := true, laidLooks := .later }
def FoldPartsCardSaid : Prop := Claim7.holds Tryd.pinned (.plain (OpenSpec.ofChange foldPartsSpec)) foldPartsCard

/-- THE TIED CARD OF 'pannierlaw10.FoldTruths'. -/
def foldTruthsCard : Claim7 := { stood := { row := foldTruthsRow, standIns := [], harness := (true, "62ed25605cee3a5a48d8de9a102713eaa47a1ff258ed8fc46e42b4694890ddfb"), looks := true }, kinds := [], alts := [], laidByText := true, laidKinds := [.data, .data, .data, .sentinel, .sentinel], laidTests := true, laidLooks := .later }
def FoldTruthsCardSaid : Prop := Claim7.holds Tryd.pinned (.plain (OpenSpec.ofChange foldTruthsSpec)) foldTruthsCard

/-- THE TIED CARD OF 'pannierlaw04.LexCuts'. -/
def lexCutsCard : Claim7 := { stood := { row := lexCutsRow, standIns := [], harness := (true, "62ed25605cee3a5a48d8de9a102713eaa47a1ff258ed8fc46e42b4694890ddfb"), looks := true }, kinds := [], alts := [], laidByText := true, laidKinds := [.data, .data, .data, .data, .sentinel, .sentinel, .pinned], laidTests := true, laidLooks := .later }
def LexCutsCardSaid : Prop := Claim7.holds Tryd.pinned (.plain (OpenSpec.ofChange lexCutsSpec)) lexCutsCard

/-- THE TIED CARD OF 'pannierlaw04.LexWords'. -/
def lexWordsCard : Claim7 := { stood := { row := lexWordsRow, standIns := [], harness := (true, "62ed25605cee3a5a48d8de9a102713eaa47a1ff258ed8fc46e42b4694890ddfb"), looks := true }, kinds := [], alts := [], laidByText := true, laidKinds := [.data, .data, .data, .data, .sentinel, .sentinel, .pinned], laidTests := true, laidLooks := .later }
def LexWordsCardSaid : Prop := Claim7.holds Tryd.pinned (.plain (OpenSpec.ofChange lexWordsSpec)) lexWordsCard

/-- THE TIED CARD OF 'pannierlaw04.LexBack'. -/
def lexBackCard : Claim7 := { stood := { row := lexBackRow, standIns := [], harness := (true, "62ed25605cee3a5a48d8de9a102713eaa47a1ff258ed8fc46e42b4694890ddfb"), looks := true }, kinds := [], alts := [], laidByText := true, laidKinds := [.data, .data, .data, .data, .sentinel, .sentinel, .pinned], laidTests := true, laidLooks := .later }
def LexBackCardSaid : Prop := Claim7.holds Tryd.pinned (.plain (OpenSpec.ofChange lexBackSpec)) lexBackCard

/-- THE TIED CARD OF 'pannierlaw04.LexLongest'. -/
def lexLongestCard : Claim7 := { stood := { row := lexLongestRow, standIns := [], harness := (true, "62ed25605cee3a5a48d8de9a102713eaa47a1ff258ed8fc46e42b4694890ddfb"), looks := true }, kinds := [], alts := [], laidByText := true, laidKinds := [.data, .data, .data, .data, .sentinel, .sentinel, .pinned], laidTests := true, laidLooks := .later }
def LexLongestCardSaid : Prop := Claim7.holds Tryd.pinned (.plain (OpenSpec.ofChange lexLongestSpec)) lexLongestCard

/-- THE SECOND FORM's CARD OF 'pannierlaw10.FoldMatches'. -/
def foldMatchesUptoCard : Claim7 := { stood := { row := foldMatchesUptoRow, standIns := [], harness := (true, "62ed25605cee3a5a48d8de9a102713eaa47a1ff258ed8fc46e42b4694890ddfb"), looks := true }, kinds := [], alts := [], laidByText := true, laidKinds := [.data, .data, .data, .sentinel, .sentinel], laidTests := true, laidLooks := .later }
def FoldMatchesUptoCardSaid : Prop := Claim7.holds Tryd.pinned (.plain (OpenSpec.upto foldMatchesSpec)) foldMatchesUptoCard

/-- THE SECOND FORM's CARD OF 'pannierlaw10.FoldEmpty'. -/
def foldEmptyUptoCard : Claim7 := { stood := { row := foldEmptyUptoRow, standIns := [], harness := (true, "62ed25605cee3a5a48d8de9a102713eaa47a1ff258ed8fc46e42b4694890ddfb"), looks := true }, kinds := [], alts := [], laidByText := true, laidKinds := [.data, .data, .data, .sentinel, .sentinel], laidTests := true, laidLooks := .later }
def FoldEmptyUptoCardSaid : Prop := Claim7.holds Tryd.pinned (.plain (OpenSpec.upto foldEmptySpec)) foldEmptyUptoCard

/-- THE SECOND FORM's CARD OF 'pannierlaw10.FoldParts'. -/
def foldPartsUptoCard : Claim7 := { stood := { row := foldPartsUptoRow, standIns := [], harness := (true, "62ed25605cee3a5a48d8de9a102713eaa47a1ff258ed8fc46e42b4694890ddfb"), looks := true }, kinds := [], alts := [], laidByText := true, laidKinds := [.data, .data, .data, .sentinel, .sentinel], laidTests := true, laidLooks := .later }
def FoldPartsUptoCardSaid : Prop := Claim7.holds Tryd.pinned (.plain (OpenSpec.upto foldPartsSpec)) foldPartsUptoCard

/-- THE SECOND FORM's CARD OF 'pannierlaw10.FoldTruths'. -/
def foldTruthsUptoCard : Claim7 := { stood := { row := foldTruthsUptoRow, standIns := [], harness := (true, "62ed25605cee3a5a48d8de9a102713eaa47a1ff258ed8fc46e42b4694890ddfb"), looks := true }, kinds := [], alts := [], laidByText := true, laidKinds := [.data, .data, .data, .sentinel, .sentinel], laidTests := true, laidLooks := .later }
def FoldTruthsUptoCardSaid : Prop := Claim7.holds Tryd.pinned (.plain (OpenSpec.upto foldTruthsSpec)) foldTruthsUptoCard

/-- THE SECOND FORM's CARD OF 'pannierlaw04.LexCuts'. -/
def lexCutsUptoCard : Claim7 := { stood := { row := lexCutsUptoRow, standIns := [], harness := (true, "62ed25605cee3a5a48d8de9a102713eaa47a1ff258ed8fc46e42b4694890ddfb"), looks := true }, kinds := [], alts := [], laidByText := true, laidKinds := [.data, .data, .data, .data, .sentinel, .sentinel, .pinned], laidTests := true, laidLooks := .later }
def LexCutsUptoCardSaid : Prop := Claim7.holds Tryd.pinned (.plain (OpenSpec.upto lexCutsSpec)) lexCutsUptoCard

/-- THE SECOND FORM's CARD OF 'pannierlaw04.LexWords'. -/
def lexWordsUptoCard : Claim7 := { stood := { row := lexWordsUptoRow, standIns := [], harness := (true, "62ed25605cee3a5a48d8de9a102713eaa47a1ff258ed8fc46e42b4694890ddfb"), looks := true }, kinds := [], alts := [], laidByText := true, laidKinds := [.data, .data, .data, .data, .sentinel, .sentinel, .pinned], laidTests := true, laidLooks := .later }
def LexWordsUptoCardSaid : Prop := Claim7.holds Tryd.pinned (.plain (OpenSpec.upto lexWordsSpec)) lexWordsUptoCard

/-- THE SECOND FORM's CARD OF 'pannierlaw04.LexBack'. -/
def lexBackUptoCard : Claim7 := { stood := { row := lexBackUptoRow, standIns := [], harness := (true, "62ed25605cee3a5a48d8de9a102713eaa47a1ff258ed8fc46e42b4694890ddfb"), looks := true }, kinds := [], alts := [], laidByText := true, laidKinds := [.data, .data, .data, .data, .sentinel, .sentinel, .pinned], laidTests := true, laidLooks := .later }
def LexBackUptoCardSaid : Prop := Claim7.holds Tryd.pinned (.plain (OpenSpec.upto lexBackSpec)) lexBackUptoCard

/-- THE SECOND FORM's CARD OF 'pannierlaw04.LexLongest'. -/
def lexLongestUptoCard : Claim7 := { stood := { row := lexLongestUptoRow, standIns := [], harness := (true, "62ed25605cee3a5a48d8de9a102713eaa47a1ff258ed8fc46e42b4694890ddfb"), looks := true }, kinds := [], alts := [], laidByText := true, laidKinds := [.data, .data, .data, .data, .sentinel, .sentinel, .pinned], laidTests := true, laidLooks := .later }
def LexLongestUptoCardSaid : Prop := Claim7.holds Tryd.pinned (.plain (OpenSpec.upto lexLongestSpec)) lexLongestUptoCard
end Rows
end Go.Proofs.YtmdmpafdpgdpoaaDoor
