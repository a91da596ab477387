/-
  DERIVED. GIVEN WITH THE SEED: THE CARDS: each row of YtpcnaoipenclnaaGreatDoorRows.lean that lists a variable, with what it lists TIED to the program's text (the seventh form; the later family's looks); each row that meets fmt, with fmt's text TOLD by the authors' own Lean function (tested against real Go, not proved from fmt's source: count such statements apart). THE CARD IS WHAT COUNTS. Prove the row's statement (the work); the ties are given (YtpcnaoipenclnaaGreatDoorTie.lean); close each card by the builder's one call (the guide's Derived/Test/ToyasCard.lean, 'card_holds'). Laid BY PROGRAM, IN A SANDBOX (cutbox-door.mjs). By AI agents, Wed Nov 11 2026. No macro, syntax, notation, axiom, sorry.
-/
import Derived.Test.YtpcnaoipenclnaaGreatDoorRows
import GoSem.ClaimSeven
namespace Go.Proofs.YtpcnaoipenclnaaGreatDoor
namespace Rows

/-- THE TIED CARD OF 'pannierlaw05.TreeParses'. -/
def treeParsesCard : Claim7 := { stood := { row := treeParsesRow, standIns := [], harness := (true, "bdef75264d11eabbc016cbe96d18d6f36081c28dc17fc0ca098153aac380a2f7"), looks := true }, kinds := [], alts := [], laidByText := true, laidKinds := [.data, .data, .data, .handle, .sentinel, .sentinel], laidTests := true, laidLooks := .later }
def TreeParsesCardSaid : Prop := Claim7.holds Tryz.pinned (.plain (OpenSpec.ofChange treeParsesSpec)) treeParsesCard

/-- THE TIED CARD OF 'pannierlaw05.TreeLeft'. -/
def treeLeftCard : Claim7 := { stood := { row := treeLeftRow, standIns := [], harness := (true, "bdef75264d11eabbc016cbe96d18d6f36081c28dc17fc0ca098153aac380a2f7"), looks := true }, kinds := [], alts := [], laidByText := true, laidKinds := [.data, .data, .data, .handle, .sentinel, .sentinel], laidTests := true, laidLooks := .later }
def TreeLeftCardSaid : Prop := Claim7.holds Tryz.pinned (.plain (OpenSpec.ofChange treeLeftSpec)) treeLeftCard

/-- THE TIED CARD OF 'pannierlaw05.TreeDeep'. -/
def treeDeepCard : Claim7 := { stood := { row := treeDeepRow, standIns := [], harness := (true, "bdef75264d11eabbc016cbe96d18d6f36081c28dc17fc0ca098153aac380a2f7"), looks := true }, kinds := [], alts := [], laidByText := true, laidKinds := [.data, .data, .data, .handle, .sentinel, .sentinel], laidTests := true, laidLooks := .later }
def TreeDeepCardSaid : Prop := Claim7.holds Tryz.pinned (.plain (OpenSpec.ofChange treeDeepSpec)) treeDeepCard

/-- THE TIED CARD OF 'pannierlaw05.TreeGood'. -/
def treeGoodCard : Claim7 := { stood := { row := treeGoodRow, standIns := [], harness := (true, "bdef75264d11eabbc016cbe96d18d6f36081c28dc17fc0ca098153aac380a2f7"), looks := true }, kinds := [], alts := [], laidByText := true, laidKinds := [.data, .data, .data, .handle, .sentinel, .sentinel], laidTests := true, laidLooks := .later }
def TreeGoodCardSaid : Prop := Claim7.holds Tryz.pinned (.plain (OpenSpec.ofChange treeGoodSpec)) treeGoodCard

/-- THE TIED CARD OF 'pannierlaw05.TreeArgs'. -/
def treeArgsCard : Claim7 := { stood := { row := treeArgsRow, standIns := [], harness := (true, "bdef75264d11eabbc016cbe96d18d6f36081c28dc17fc0ca098153aac380a2f7"), looks := true }, kinds := [], alts := [], laidByText := true, laidKinds := [.data, .data, .data, .handle, .sentinel, .sentinel], laidTests := true, laidLooks := .later }
def TreeArgsCardSaid : Prop := Claim7.holds Tryz.pinned (.plain (OpenSpec.ofChange treeArgsSpec)) treeArgsCard

/-- THE TIED CARD OF 'pannierlaw05.TreeTells'. -/
def treeTellsCard : Claim7 := { stood := { row := treeTellsRow, standIns := [], harness := (true, "bdef75264d11eabbc016cbe96d18d6f36081c28dc17fc0ca098153aac380a2f7"), looks := true }, kinds := [], alts := [], laidByText := true, laidKinds := [.data, .data, .data, .handle, .sentinel, .sentinel], laidTests := true, laidLooks := .later }
def TreeTellsCardSaid : Prop := Claim7.holds Tryz.pinned (.plain (OpenSpec.ofChange treeTellsSpec)) treeTellsCard

/-- THE TIED CARD OF 'pannierlaw08.RefsOf'. -/
def refsOfCard : Claim7 := { stood := { row := refsOfRow, standIns := [], harness := (true, "bdef75264d11eabbc016cbe96d18d6f36081c28dc17fc0ca098153aac380a2f7"), looks := true }, kinds := [], alts := [], laidByText := true, laidKinds := [.data, .data, .data, .handle, .sentinel, .sentinel], laidTests := true, laidLooks := .later }
def RefsOfCardSaid : Prop := Claim7.holds Tryz.pinned (.plain (OpenSpec.ofChange refsOfSpec)) refsOfCard

/-- THE TIED CARD OF 'pannierlaw08.RefsNames'. -/
def refsNamesCard : Claim7 := { stood := { row := refsNamesRow, standIns := [], harness := (true, "bdef75264d11eabbc016cbe96d18d6f36081c28dc17fc0ca098153aac380a2f7"), looks := true }, kinds := [], alts := [], laidByText := true, laidKinds := [.data, .data, .data, .handle, .sentinel, .sentinel], laidTests := true, laidLooks := .later }
def RefsNamesCardSaid : Prop := Claim7.holds Tryz.pinned (.plain (OpenSpec.ofChange refsNamesSpec)) refsNamesCard

/-- THE TIED CARD OF 'pannierlaw08.RefsUnion'. -/
def refsUnionCard : Claim7 := { stood := { row := refsUnionRow, standIns := [], harness := (true, "bdef75264d11eabbc016cbe96d18d6f36081c28dc17fc0ca098153aac380a2f7"), looks := true }, kinds := [], alts := [], laidByText := true, laidKinds := [.data, .data, .data, .handle, .sentinel, .sentinel], laidTests := true, laidLooks := .later }
def RefsUnionCardSaid : Prop := Claim7.holds Tryz.pinned (.plain (OpenSpec.ofChange refsUnionSpec)) refsUnionCard

/-- THE TIED CARD OF 'pannierlaw08.RefsTell'. -/
def refsTellCard : Claim7 := { stood := { row := refsTellRow, standIns := [], harness := (true, "bdef75264d11eabbc016cbe96d18d6f36081c28dc17fc0ca098153aac380a2f7"), looks := true }, kinds := [], alts := [], laidByText := true, laidKinds := [.data, .data, .data, .handle, .sentinel, .sentinel], laidTests := true, laidLooks := .later }
def RefsTellCardSaid : Prop := Claim7.holds Tryz.pinned (.plain (OpenSpec.ofChange refsTellSpec)) refsTellCard

/-- THE SECOND FORM's CARD OF 'pannierlaw05.TreeParses'. -/
def treeParsesUptoCard : Claim7 := { stood := { row := treeParsesUptoRow, standIns := [], harness := (true, "bdef75264d11eabbc016cbe96d18d6f36081c28dc17fc0ca098153aac380a2f7"), looks := true }, kinds := [], alts := [], laidByText := true, laidKinds := [.data, .data, .data, .handle, .sentinel, .sentinel], laidTests := true, laidLooks := .later }
def TreeParsesUptoCardSaid : Prop := Claim7.holds Tryz.pinned (.plain (OpenSpec.upto treeParsesSpec)) treeParsesUptoCard

/-- THE SECOND FORM's CARD OF 'pannierlaw05.TreeLeft'. -/
def treeLeftUptoCard : Claim7 := { stood := { row := treeLeftUptoRow, standIns := [], harness := (true, "bdef75264d11eabbc016cbe96d18d6f36081c28dc17fc0ca098153aac380a2f7"), looks := true }, kinds := [], alts := [], laidByText := true, laidKinds := [.data, .data, .data, .handle, .sentinel, .sentinel], laidTests := true, laidLooks := .later }
def TreeLeftUptoCardSaid : Prop := Claim7.holds Tryz.pinned (.plain (OpenSpec.upto treeLeftSpec)) treeLeftUptoCard

/-- THE SECOND FORM's CARD OF 'pannierlaw05.TreeDeep'. -/
def treeDeepUptoCard : Claim7 := { stood := { row := treeDeepUptoRow, standIns := [], harness := (true, "bdef75264d11eabbc016cbe96d18d6f36081c28dc17fc0ca098153aac380a2f7"), looks := true }, kinds := [], alts := [], laidByText := true, laidKinds := [.data, .data, .data, .handle, .sentinel, .sentinel], laidTests := true, laidLooks := .later }
def TreeDeepUptoCardSaid : Prop := Claim7.holds Tryz.pinned (.plain (OpenSpec.upto treeDeepSpec)) treeDeepUptoCard

/-- THE SECOND FORM's CARD OF 'pannierlaw05.TreeGood'. -/
def treeGoodUptoCard : Claim7 := { stood := { row := treeGoodUptoRow, standIns := [], harness := (true, "bdef75264d11eabbc016cbe96d18d6f36081c28dc17fc0ca098153aac380a2f7"), looks := true }, kinds := [], alts := [], laidByText := true, laidKinds := [.data, .data, .data, .handle, .sentinel, .sentinel], laidTests := true, laidLooks := .later }
def TreeGoodUptoCardSaid : Prop := Claim7.holds Tryz.pinned (.plain (OpenSpec.upto treeGoodSpec)) treeGoodUptoCard

/-- THE SECOND FORM's CARD OF 'pannierlaw05.TreeArgs'. -/
def treeArgsUptoCard : Claim7 := { stood := { row := treeArgsUptoRow, standIns := [], harness := (true, "bdef75264d11eabbc016cbe96d18d6f36081c28dc17fc0ca098153aac380a2f7"), looks := true }, kinds := [], alts := [], laidByText := true, laidKinds := [.data, .data, .data, .handle, .sentinel, .sentinel], laidTests := true, laidLooks := .later }
def TreeArgsUptoCardSaid : Prop := Claim7.holds Tryz.pinned (.plain (OpenSpec.upto treeArgsSpec)) treeArgsUptoCard

/-- THE SECOND FORM's CARD OF 'pannierlaw05.TreeTells'. -/
def treeTellsUptoCard : Claim7 := { stood := { row := treeTellsUptoRow, standIns := [], harness := (true, "bdef75264d11eabbc016cbe96d18d6f36081c28dc17fc0ca098153aac380a2f7"), looks := true }, kinds := [], alts := [], laidByText := true, laidKinds := [.data, .data, .data, .handle, .sentinel, .sentinel], laidTests := true, laidLooks := .later }
def TreeTellsUptoCardSaid : Prop := Claim7.holds Tryz.pinned (.plain (OpenSpec.upto treeTellsSpec)) treeTellsUptoCard

/-- THE SECOND FORM's CARD OF 'pannierlaw08.RefsOf'. -/
def refsOfUptoCard : Claim7 := { stood := { row := refsOfUptoRow, standIns := [], harness := (true, "bdef75264d11eabbc016cbe96d18d6f36081c28dc17fc0ca098153aac380a2f7"), looks := true }, kinds := [], alts := [], laidByText := true, laidKinds := [.data, .data, .data, .handle, .sentinel, .sentinel], laidTests := true, laidLooks := .later }
def RefsOfUptoCardSaid : Prop := Claim7.holds Tryz.pinned (.plain (OpenSpec.upto refsOfSpec)) refsOfUptoCard

/-- THE SECOND FORM's CARD OF 'pannierlaw08.RefsNames'. -/
def refsNamesUptoCard : Claim7 := { stood := { row := refsNamesUptoRow, standIns := [], harness := (true, "bdef75264d11eabbc016cbe96d18d6f36081c28dc17fc0ca098153aac380a2f7"), looks := true }, kinds := [], alts := [], laidByText := true, laidKinds := [.data, .data, .data, .handle, .sentinel, .sentinel], laidTests := true, laidLooks := .later }
def RefsNamesUptoCardSaid : Prop := Claim7.holds Tryz.pinned (.plain (OpenSpec.upto refsNamesSpec)) refsNamesUptoCard

/-- THE SECOND FORM's CARD OF 'pannierlaw08.RefsUnion'. -/
def refsUnionUptoCard : Claim7 := { stood := { row := refsUnionUptoRow, standIns := [], harness := (true, "bdef75264d11eabbc016cbe96d18d6f36081c28dc17fc0ca098153aac380a2f7"), looks := true }, kinds := [], alts := [], laidByText := true, laidKinds := [.data, .data, .data, .handle, .sentinel, .sentinel], laidTests := true, laidLooks := .later }
def RefsUnionUptoCardSaid : Prop := Claim7.holds Tryz.pinned (.plain (OpenSpec.upto refsUnionSpec)) refsUnionUptoCard

/-- THE SECOND FORM's CARD OF 'pannierlaw08.RefsTell'. -/
def refsTellUptoCard : Claim7 := { stood := { row := refsTellUptoRow, standIns := [], harness := (true, "bdef75264d11eabbc016cbe96d18d6f36081c28dc17fc0ca098153aac380a2f7"), looks := true }, kinds := [], alts := [], laidByText := true, laidKinds := [.data, .data, .data, .handle, .sentinel, .sentinel], laidTests := true, laidLooks := .later }
def RefsTellUptoCardSaid : Prop := Claim7.holds Tryz.pinned (.plain (OpenSpec.upto refsTellSpec)) refsTellUptoCard
end Rows
end Go.Proofs.YtpcnaoipenclnaaGreatDoor
