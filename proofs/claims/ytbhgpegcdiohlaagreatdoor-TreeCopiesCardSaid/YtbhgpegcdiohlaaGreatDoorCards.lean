/-
  DERIVED. GIVEN WITH THE SEED: THE CARDS: each row of YtbhgpegcdiohlaaGreatDoorRows.lean that lists a variable, with what it lists TIED to the program's text (the seventh form; the later family's looks); each row that meets fmt, with fmt's text TOLD by the authors' own Lean function (tested against real Go, not proved from fmt's source: count such statements apart). THE CARD IS WHAT COUNTS. Prove the row's statement (the work); the ties are given (YtbhgpegcdiohlaaGreatDoorTie.lean); close each card by the builder's one call (the guide's Derived/Test/ToyasCard.lean, 'card_holds'). Laid BY PROGRAM, IN A SANDBOX (cutbox-door.mjs). By AI agents, Wed Nov 11 2026. No macro, syntax, notation, axiom, sorry.
-/
import Derived.Test.YtbhgpegcdiohlaaGreatDoorRows
import GoSem.ClaimSeven
namespace Go.Proofs.YtbhgpegcdiohlaaGreatDoor
namespace Rows

/-- THE TIED CARD OF 'foundrylaw06.TreeRights'. -/
def treeRightsCard : Claim7 := { stood := { row := treeRightsRow, standIns := [], harness := (true, "91aab94e3c59eef59b62cfdf8363fe7476a4219c2225f950ba2774e8cf81a95d"), looks := true }, kinds := [], alts := [], laidByText := true, laidKinds := [.data, .data, .widerDeep, .widerDeep, .data, .data, .data, .data, .data, .sentinel, .sentinel, .pinned, .pinned], laidTests := true, laidLooks := .later }
def TreeRightsCardSaid : Prop := Claim7.holds Tryz.pinned (.plain (OpenSpec.ofChange treeRightsSpec)) treeRightsCard

/-- THE TIED CARD OF 'foundrylaw06.TreePrints'. -/
def treePrintsCard : Claim7 := { stood := { row := treePrintsRow, standIns := [], harness := (true, "91aab94e3c59eef59b62cfdf8363fe7476a4219c2225f950ba2774e8cf81a95d"), looks := true }, kinds := [], alts := [], laidByText := true, laidKinds := [.data, .data, .widerDeep, .widerDeep, .data, .data, .data, .data, .data, .sentinel, .sentinel, .pinned, .pinned], laidTests := true, laidLooks := .later }
def TreePrintsCardSaid : Prop := Claim7.holds Tryz.pinned (.plain (OpenSpec.ofChange treePrintsSpec)) treePrintsCard

/-- THE TIED CARD OF 'foundrylaw06.TreeTexts'. -/
def treeTextsCard : Claim7 := { stood := { row := treeTextsRow, standIns := [], harness := (true, "91aab94e3c59eef59b62cfdf8363fe7476a4219c2225f950ba2774e8cf81a95d"), looks := true }, kinds := [], alts := [], laidByText := true, laidKinds := [.data, .data, .widerDeep, .widerDeep, .data, .data, .data, .data, .data, .sentinel, .sentinel, .pinned, .pinned], laidTests := true, laidLooks := .later }
def TreeTextsCardSaid : Prop := Claim7.holds Tryz.pinned (.plain (OpenSpec.ofChange treeTextsSpec)) treeTextsCard

/-- THE TIED CARD OF 'foundrylaw06.TreeLevels'. -/
def treeLevelsCard : Claim7 := { stood := { row := treeLevelsRow, standIns := [], harness := (true, "91aab94e3c59eef59b62cfdf8363fe7476a4219c2225f950ba2774e8cf81a95d"), looks := true }, kinds := [], alts := [], laidByText := true, laidKinds := [.data, .data, .widerDeep, .widerDeep, .data, .data, .data, .data, .data, .sentinel, .sentinel, .pinned, .pinned], laidTests := true, laidLooks := .later }
def TreeLevelsCardSaid : Prop := Claim7.holds Tryz.pinned (.plain (OpenSpec.ofChange treeLevelsSpec)) treeLevelsCard

/-- THE TIED CARD OF 'foundrylaw06.TreeFirst'. -/
def treeFirstCard : Claim7 := { stood := { row := treeFirstRow, standIns := [], harness := (true, "91aab94e3c59eef59b62cfdf8363fe7476a4219c2225f950ba2774e8cf81a95d"), looks := true }, kinds := [], alts := [], laidByText := true, laidKinds := [.data, .data, .widerDeep, .widerDeep, .data, .data, .data, .data, .data, .sentinel, .sentinel, .pinned, .pinned], laidTests := true, laidLooks := .later }
def TreeFirstCardSaid : Prop := Claim7.holds Tryz.pinned (.plain (OpenSpec.ofChange treeFirstSpec)) treeFirstCard

/-- THE TIED CARD OF 'foundrylaw06.TreeSames'. -/
def treeSamesCard : Claim7 := { stood := { row := treeSamesRow, standIns := [], harness := (true, "91aab94e3c59eef59b62cfdf8363fe7476a4219c2225f950ba2774e8cf81a95d"), looks := true }, kinds := [], alts := [], laidByText := true, laidKinds := [.data, .data, .widerDeep, .widerDeep, .data, .data, .data, .data, .data, .sentinel, .sentinel, .pinned, .pinned], laidTests := true, laidLooks := .later }
def TreeSamesCardSaid : Prop := Claim7.holds Tryz.pinned (.plain (OpenSpec.ofChange treeSamesSpec)) treeSamesCard

/-- THE TIED CARD OF 'foundrylaw06.TreeOneText'. -/
def treeOneTextCard : Claim7 := { stood := { row := treeOneTextRow, standIns := [], harness := (true, "91aab94e3c59eef59b62cfdf8363fe7476a4219c2225f950ba2774e8cf81a95d"), looks := true }, kinds := [], alts := [], laidByText := true, laidKinds := [.data, .data, .widerDeep, .widerDeep, .data, .data, .data, .data, .data, .sentinel, .sentinel, .pinned, .pinned], laidTests := true, laidLooks := .later }
def TreeOneTextCardSaid : Prop := Claim7.holds Tryz.pinned (.plain (OpenSpec.ofChange treeOneTextSpec)) treeOneTextCard

/-- THE TIED CARD OF 'foundrylaw06.TreeEquality'. -/
def treeEqualityCard : Claim7 := { stood := { row := treeEqualityRow, standIns := [], harness := (true, "91aab94e3c59eef59b62cfdf8363fe7476a4219c2225f950ba2774e8cf81a95d"), looks := true }, kinds := [], alts := [], laidByText := true, laidKinds := [.data, .data, .widerDeep, .widerDeep, .data, .data, .data, .data, .data, .sentinel, .sentinel, .pinned, .pinned], laidTests := true, laidLooks := .later }
def TreeEqualityCardSaid : Prop := Claim7.holds Tryz.pinned (.plain (OpenSpec.ofChange treeEqualitySpec)) treeEqualityCard

/-- THE TIED CARD OF 'foundrylaw06.TreeCopies'. -/
def treeCopiesCard : Claim7 := { stood := { row := treeCopiesRow, standIns := [], harness := (true, "91aab94e3c59eef59b62cfdf8363fe7476a4219c2225f950ba2774e8cf81a95d"), looks := true }, kinds := [], alts := [], laidByText := true, laidKinds := [.data, .data, .widerDeep, .widerDeep, .data, .data, .data, .data, .data, .sentinel, .sentinel, .pinned, .pinned], laidTests := true, laidLooks := .later }
def TreeCopiesCardSaid : Prop := Claim7.holds Tryz.pinned (.plain (OpenSpec.ofChange treeCopiesSpec)) treeCopiesCard

/-- THE TIED CARD OF 'foundrylaw06.TreeParts'. -/
def treePartsCard : Claim7 := { stood := { row := treePartsRow, standIns := [], harness := (true, "91aab94e3c59eef59b62cfdf8363fe7476a4219c2225f950ba2774e8cf81a95d"), looks := true }, kinds := [], alts := [], laidByText := true, laidKinds := [.data, .data, .widerDeep, .widerDeep, .data, .data, .data, .data, .data, .sentinel, .sentinel, .pinned, .pinned], laidTests := true, laidLooks := .later }
def TreePartsCardSaid : Prop := Claim7.holds Tryz.pinned (.plain (OpenSpec.ofChange treePartsSpec)) treePartsCard

/-- THE SECOND FORM's CARD OF 'foundrylaw06.TreeRights'. -/
def treeRightsUptoCard : Claim7 := { stood := { row := treeRightsUptoRow, standIns := [], harness := (true, "91aab94e3c59eef59b62cfdf8363fe7476a4219c2225f950ba2774e8cf81a95d"), looks := true }, kinds := [], alts := [], laidByText := true, laidKinds := [.data, .data, .widerDeep, .widerDeep, .data, .data, .data, .data, .data, .sentinel, .sentinel, .pinned, .pinned], laidTests := true, laidLooks := .later }
def TreeRightsUptoCardSaid : Prop := Claim7.holds Tryz.pinned (.plain (OpenSpec.upto treeRightsSpec)) treeRightsUptoCard

/-- THE SECOND FORM's CARD OF 'foundrylaw06.TreePrints'. -/
def treePrintsUptoCard : Claim7 := { stood := { row := treePrintsUptoRow, standIns := [], harness := (true, "91aab94e3c59eef59b62cfdf8363fe7476a4219c2225f950ba2774e8cf81a95d"), looks := true }, kinds := [], alts := [], laidByText := true, laidKinds := [.data, .data, .widerDeep, .widerDeep, .data, .data, .data, .data, .data, .sentinel, .sentinel, .pinned, .pinned], laidTests := true, laidLooks := .later }
def TreePrintsUptoCardSaid : Prop := Claim7.holds Tryz.pinned (.plain (OpenSpec.upto treePrintsSpec)) treePrintsUptoCard

/-- THE SECOND FORM's CARD OF 'foundrylaw06.TreeTexts'. -/
def treeTextsUptoCard : Claim7 := { stood := { row := treeTextsUptoRow, standIns := [], harness := (true, "91aab94e3c59eef59b62cfdf8363fe7476a4219c2225f950ba2774e8cf81a95d"), looks := true }, kinds := [], alts := [], laidByText := true, laidKinds := [.data, .data, .widerDeep, .widerDeep, .data, .data, .data, .data, .data, .sentinel, .sentinel, .pinned, .pinned], laidTests := true, laidLooks := .later }
def TreeTextsUptoCardSaid : Prop := Claim7.holds Tryz.pinned (.plain (OpenSpec.upto treeTextsSpec)) treeTextsUptoCard

/-- THE SECOND FORM's CARD OF 'foundrylaw06.TreeLevels'. -/
def treeLevelsUptoCard : Claim7 := { stood := { row := treeLevelsUptoRow, standIns := [], harness := (true, "91aab94e3c59eef59b62cfdf8363fe7476a4219c2225f950ba2774e8cf81a95d"), looks := true }, kinds := [], alts := [], laidByText := true, laidKinds := [.data, .data, .widerDeep, .widerDeep, .data, .data, .data, .data, .data, .sentinel, .sentinel, .pinned, .pinned], laidTests := true, laidLooks := .later }
def TreeLevelsUptoCardSaid : Prop := Claim7.holds Tryz.pinned (.plain (OpenSpec.upto treeLevelsSpec)) treeLevelsUptoCard

/-- THE SECOND FORM's CARD OF 'foundrylaw06.TreeFirst'. -/
def treeFirstUptoCard : Claim7 := { stood := { row := treeFirstUptoRow, standIns := [], harness := (true, "91aab94e3c59eef59b62cfdf8363fe7476a4219c2225f950ba2774e8cf81a95d"), looks := true }, kinds := [], alts := [], laidByText := true, laidKinds := [.data, .data, .widerDeep, .widerDeep, .data, .data, .data, .data, .data, .sentinel, .sentinel, .pinned, .pinned], laidTests := true, laidLooks := .later }
def TreeFirstUptoCardSaid : Prop := Claim7.holds Tryz.pinned (.plain (OpenSpec.upto treeFirstSpec)) treeFirstUptoCard

/-- THE SECOND FORM's CARD OF 'foundrylaw06.TreeSames'. -/
def treeSamesUptoCard : Claim7 := { stood := { row := treeSamesUptoRow, standIns := [], harness := (true, "91aab94e3c59eef59b62cfdf8363fe7476a4219c2225f950ba2774e8cf81a95d"), looks := true }, kinds := [], alts := [], laidByText := true, laidKinds := [.data, .data, .widerDeep, .widerDeep, .data, .data, .data, .data, .data, .sentinel, .sentinel, .pinned, .pinned], laidTests := true, laidLooks := .later }
def TreeSamesUptoCardSaid : Prop := Claim7.holds Tryz.pinned (.plain (OpenSpec.upto treeSamesSpec)) treeSamesUptoCard

/-- THE SECOND FORM's CARD OF 'foundrylaw06.TreeOneText'. -/
def treeOneTextUptoCard : Claim7 := { stood := { row := treeOneTextUptoRow, standIns := [], harness := (true, "91aab94e3c59eef59b62cfdf8363fe7476a4219c2225f950ba2774e8cf81a95d"), looks := true }, kinds := [], alts := [], laidByText := true, laidKinds := [.data, .data, .widerDeep, .widerDeep, .data, .data, .data, .data, .data, .sentinel, .sentinel, .pinned, .pinned], laidTests := true, laidLooks := .later }
def TreeOneTextUptoCardSaid : Prop := Claim7.holds Tryz.pinned (.plain (OpenSpec.upto treeOneTextSpec)) treeOneTextUptoCard

/-- THE SECOND FORM's CARD OF 'foundrylaw06.TreeEquality'. -/
def treeEqualityUptoCard : Claim7 := { stood := { row := treeEqualityUptoRow, standIns := [], harness := (true, "91aab94e3c59eef59b62cfdf8363fe7476a4219c2225f950ba2774e8cf81a95d"), looks := true }, kinds := [], alts := [], laidByText := true, laidKinds := [.data, .data, .widerDeep, .widerDeep, .data, .data, .data, .data, .data, .sentinel, .sentinel, .pinned, .pinned], laidTests := true, laidLooks := .later }
def TreeEqualityUptoCardSaid : Prop := Claim7.holds Tryz.pinned (.plain (OpenSpec.upto treeEqualitySpec)) treeEqualityUptoCard

/-- THE SECOND FORM's CARD OF 'foundrylaw06.TreeCopies'. -/
def treeCopiesUptoCard : Claim7 := { stood := { row := treeCopiesUptoRow, standIns := [], harness := (true, "91aab94e3c59eef59b62cfdf8363fe7476a4219c2225f950ba2774e8cf81a95d"), looks := true }, kinds := [], alts := [], laidByText := true, laidKinds := [.data, .data, .widerDeep, .widerDeep, .data, .data, .data, .data, .data, .sentinel, .sentinel, .pinned, .pinned], laidTests := true, laidLooks := .later }
def TreeCopiesUptoCardSaid : Prop := Claim7.holds Tryz.pinned (.plain (OpenSpec.upto treeCopiesSpec)) treeCopiesUptoCard

/-- THE SECOND FORM's CARD OF 'foundrylaw06.TreeParts'. -/
def treePartsUptoCard : Claim7 := { stood := { row := treePartsUptoRow, standIns := [], harness := (true, "91aab94e3c59eef59b62cfdf8363fe7476a4219c2225f950ba2774e8cf81a95d"), looks := true }, kinds := [], alts := [], laidByText := true, laidKinds := [.data, .data, .widerDeep, .widerDeep, .data, .data, .data, .data, .data, .sentinel, .sentinel, .pinned, .pinned], laidTests := true, laidLooks := .later }
def TreePartsUptoCardSaid : Prop := Claim7.holds Tryz.pinned (.plain (OpenSpec.upto treePartsSpec)) treePartsUptoCard
end Rows
end Go.Proofs.YtbhgpegcdiohlaaGreatDoor
