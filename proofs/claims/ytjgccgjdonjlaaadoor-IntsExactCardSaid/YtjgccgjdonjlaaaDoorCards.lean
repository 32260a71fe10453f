/-
  DERIVED. GIVEN WITH THE SEED: THE CARDS: each row of YtjgccgjdonjlaaaDoorRows.lean that lists a variable, with what it lists TIED to the program's text (the seventh form; the later family's looks); each row that meets fmt, with fmt's text TOLD by the authors' own Lean function (tested against real Go, not proved from fmt's source: count such statements apart). THE CARD IS WHAT COUNTS. Prove the row's statement (the work); the ties are given (YtjgccgjdonjlaaaDoorTie.lean); close each card by the builder's one call (the guide's Derived/Test/ToyasCard.lean, 'card_holds'). Laid BY PROGRAM, IN A SANDBOX (cutbox-door.mjs). By AI agents, Wed Nov 11 2026. No macro, syntax, notation, axiom, sorry.
-/
import Derived.Test.YtjgccgjdonjlaaaDoorRows
import GoSem.ClaimSeven
namespace Go.Proofs.YtjgccgjdonjlaaaDoor
namespace Rows

/-- THE TIED CARD OF 'foundrylaw02.IntsReads'. -/
def intsReadsCard : Claim7 := { stood := { row := intsReadsRow, standIns := [], harness := (true, "f03af82ede869da918f5d5b468edde05adcfc4986b59a0fa6065d07ad3c2d6a7"), looks := true }, kinds := [], alts := [], laidByText := true, laidKinds := [.data, .data, .data, .sentinel, .sentinel], laidTests := true, laidLooks := .later }
def IntsReadsCardSaid : Prop := Claim7.holds Tryd.pinned (.plain (OpenSpec.ofChange intsReadsSpec)) intsReadsCard

/-- THE TIED CARD OF 'foundrylaw02.IntsExact'. -/
def intsExactCard : Claim7 := { stood := { row := intsExactRow, standIns := [], harness := (true, "f03af82ede869da918f5d5b468edde05adcfc4986b59a0fa6065d07ad3c2d6a7"), looks := true }, kinds := [], alts := [], laidByText := true, laidKinds := [.data, .data, .data, .sentinel, .sentinel], laidTests := true, laidLooks := .later }
def IntsExactCardSaid : Prop := Claim7.holds Tryd.pinned (.plain (OpenSpec.ofChange intsExactSpec)) intsExactCard

/-- THE TIED CARD OF 'foundrylaw02.IntsBack'. -/
def intsBackCard : Claim7 := { stood := { row := intsBackRow, standIns := [], harness := (true, "f03af82ede869da918f5d5b468edde05adcfc4986b59a0fa6065d07ad3c2d6a7"), looks := true }, kinds := [], alts := [], laidByText := true, laidKinds := [.data, .data, .data, .sentinel, .sentinel], laidTests := true, laidLooks := .later }
def IntsBackCardSaid : Prop := Claim7.holds Tryd.pinned (.plain (OpenSpec.ofChange intsBackSpec)) intsBackCard

/-- THE TIED CARD OF 'foundrylaw02.IntsRing'. -/
def intsRingCard : Claim7 := { stood := { row := intsRingRow, standIns := [], harness := (true, "f03af82ede869da918f5d5b468edde05adcfc4986b59a0fa6065d07ad3c2d6a7"), looks := true }, kinds := [], alts := [], laidByText := true, laidKinds := [.data, .data, .data, .sentinel, .sentinel], laidTests := true, laidLooks := .later }
def IntsRingCardSaid : Prop := Claim7.holds Tryd.pinned (.plain (OpenSpec.ofChange intsRingSpec)) intsRingCard

/-- THE TIED CARD OF 'foundrylaw02.IntsEuclid'. -/
def intsEuclidCard : Claim7 := { stood := { row := intsEuclidRow, standIns := [], harness := (true, "f03af82ede869da918f5d5b468edde05adcfc4986b59a0fa6065d07ad3c2d6a7"), looks := true }, kinds := [], alts := [], laidByText := true, laidKinds := [.data, .data, .data, .sentinel, .sentinel], laidTests := true, laidLooks := .later }
def IntsEuclidCardSaid : Prop := Claim7.holds Tryd.pinned (.plain (OpenSpec.ofChange intsEuclidSpec)) intsEuclidCard

/-- THE TIED CARD OF 'foundrylaw02.IntsOrder'. -/
def intsOrderCard : Claim7 := { stood := { row := intsOrderRow, standIns := [], harness := (true, "f03af82ede869da918f5d5b468edde05adcfc4986b59a0fa6065d07ad3c2d6a7"), looks := true }, kinds := [], alts := [], laidByText := true, laidKinds := [.data, .data, .data, .sentinel, .sentinel], laidTests := true, laidLooks := .later }
def IntsOrderCardSaid : Prop := Claim7.holds Tryd.pinned (.plain (OpenSpec.ofChange intsOrderSpec)) intsOrderCard

/-- THE TIED CARD OF 'foundrylaw02.IntsSums'. -/
def intsSumsCard : Claim7 := { stood := { row := intsSumsRow, standIns := [], harness := (true, "f03af82ede869da918f5d5b468edde05adcfc4986b59a0fa6065d07ad3c2d6a7"), looks := true }, kinds := [], alts := [], laidByText := true, laidKinds := [.data, .data, .data, .sentinel, .sentinel], laidTests := true, laidLooks := .later }
def IntsSumsCardSaid : Prop := Claim7.holds Tryd.pinned (.plain (OpenSpec.ofChange intsSumsSpec)) intsSumsCard

/-- THE TIED CARD OF 'foundrylaw02.IntsPrefix'. -/
def intsPrefixCard : Claim7 := { stood := { row := intsPrefixRow, standIns := [], harness := (true, "f03af82ede869da918f5d5b468edde05adcfc4986b59a0fa6065d07ad3c2d6a7"), looks := true }, kinds := [], alts := [], laidByText := true, laidKinds := [.data, .data, .data, .sentinel, .sentinel], laidTests := true, laidLooks := .later }
def IntsPrefixCardSaid : Prop := Claim7.holds Tryd.pinned (.plain (OpenSpec.ofChange intsPrefixSpec)) intsPrefixCard

/-- THE TIED CARD OF 'foundrylaw02.IntsReckons'. -/
def intsReckonsCard : Claim7 := { stood := { row := intsReckonsRow, standIns := [], harness := (true, "f03af82ede869da918f5d5b468edde05adcfc4986b59a0fa6065d07ad3c2d6a7"), looks := true }, kinds := [], alts := [], laidByText := true, laidKinds := [.data, .data, .data, .sentinel, .sentinel], laidTests := true, laidLooks := .later }
def IntsReckonsCardSaid : Prop := Claim7.holds Tryd.pinned (.plain (OpenSpec.ofChange intsReckonsSpec)) intsReckonsCard

/-- THE SECOND FORM's CARD OF 'foundrylaw02.IntsReads'. -/
def intsReadsUptoCard : Claim7 := { stood := { row := intsReadsUptoRow, standIns := [], harness := (true, "f03af82ede869da918f5d5b468edde05adcfc4986b59a0fa6065d07ad3c2d6a7"), looks := true }, kinds := [], alts := [], laidByText := true, laidKinds := [.data, .data, .data, .sentinel, .sentinel], laidTests := true, laidLooks := .later }
def IntsReadsUptoCardSaid : Prop := Claim7.holds Tryd.pinned (.plain (OpenSpec.upto intsReadsSpec)) intsReadsUptoCard

/-- THE SECOND FORM's CARD OF 'foundrylaw02.IntsExact'. -/
def intsExactUptoCard : Claim7 := { stood := { row := intsExactUptoRow, standIns := [], harness := (true, "f03af82ede869da918f5d5b468edde05adcfc4986b59a0fa6065d07ad3c2d6a7"), looks := true }, kinds := [], alts := [], laidByText := true, laidKinds := [.data, .data, .data, .sentinel, .sentinel], laidTests := true, laidLooks := .later }
def IntsExactUptoCardSaid : Prop := Claim7.holds Tryd.pinned (.plain (OpenSpec.upto intsExactSpec)) intsExactUptoCard

/-- THE SECOND FORM's CARD OF 'foundrylaw02.IntsBack'. -/
def intsBackUptoCard : Claim7 := { stood := { row := intsBackUptoRow, standIns := [], harness := (true, "f03af82ede869da918f5d5b468edde05adcfc4986b59a0fa6065d07ad3c2d6a7"), looks := true }, kinds := [], alts := [], laidByText := true, laidKinds := [.data, .data, .data, .sentinel, .sentinel], laidTests := true, laidLooks := .later }
def IntsBackUptoCardSaid : Prop := Claim7.holds Tryd.pinned (.plain (OpenSpec.upto intsBackSpec)) intsBackUptoCard

/-- THE SECOND FORM's CARD OF 'foundrylaw02.IntsRing'. -/
def intsRingUptoCard : Claim7 := { stood := { row := intsRingUptoRow, standIns := [], harness := (true, "f03af82ede869da918f5d5b468edde05adcfc4986b59a0fa6065d07ad3c2d6a7"), looks := true }, kinds := [], alts := [], laidByText := true, laidKinds := [.data, .data, .data, .sentinel, .sentinel], laidTests := true, laidLooks := .later }
def IntsRingUptoCardSaid : Prop := Claim7.holds Tryd.pinned (.plain (OpenSpec.upto intsRingSpec)) intsRingUptoCard

/-- THE SECOND FORM's CARD OF 'foundrylaw02.IntsEuclid'. -/
def intsEuclidUptoCard : Claim7 := { stood := { row := intsEuclidUptoRow, standIns := [], harness := (true, "f03af82ede869da918f5d5b468edde05adcfc4986b59a0fa6065d07ad3c2d6a7"), looks := true }, kinds := [], alts := [], laidByText := true, laidKinds := [.data, .data, .data, .sentinel, .sentinel], laidTests := true, laidLooks := .later }
def IntsEuclidUptoCardSaid : Prop := Claim7.holds Tryd.pinned (.plain (OpenSpec.upto intsEuclidSpec)) intsEuclidUptoCard

/-- THE SECOND FORM's CARD OF 'foundrylaw02.IntsOrder'. -/
def intsOrderUptoCard : Claim7 := { stood := { row := intsOrderUptoRow, standIns := [], harness := (true, "f03af82ede869da918f5d5b468edde05adcfc4986b59a0fa6065d07ad3c2d6a7"), looks := true }, kinds := [], alts := [], laidByText := true, laidKinds := [.data, .data, .data, .sentinel, .sentinel], laidTests := true, laidLooks := .later }
def IntsOrderUptoCardSaid : Prop := Claim7.holds Tryd.pinned (.plain (OpenSpec.upto intsOrderSpec)) intsOrderUptoCard

/-- THE SECOND FORM's CARD OF 'foundrylaw02.IntsSums'. -/
def intsSumsUptoCard : Claim7 := { stood := { row := intsSumsUptoRow, standIns := [], harness := (true, "f03af82ede869da918f5d5b468edde05adcfc4986b59a0fa6065d07ad3c2d6a7"), looks := true }, kinds := [], alts := [], laidByText := true, laidKinds := [.data, .data, .data, .sentinel, .sentinel], laidTests := true, laidLooks := .later }
def IntsSumsUptoCardSaid : Prop := Claim7.holds Tryd.pinned (.plain (OpenSpec.upto intsSumsSpec)) intsSumsUptoCard

/-- THE SECOND FORM's CARD OF 'foundrylaw02.IntsPrefix'. -/
def intsPrefixUptoCard : Claim7 := { stood := { row := intsPrefixUptoRow, standIns := [], harness := (true, "f03af82ede869da918f5d5b468edde05adcfc4986b59a0fa6065d07ad3c2d6a7"), looks := true }, kinds := [], alts := [], laidByText := true, laidKinds := [.data, .data, .data, .sentinel, .sentinel], laidTests := true, laidLooks := .later }
def IntsPrefixUptoCardSaid : Prop := Claim7.holds Tryd.pinned (.plain (OpenSpec.upto intsPrefixSpec)) intsPrefixUptoCard

/-- THE SECOND FORM's CARD OF 'foundrylaw02.IntsReckons'. -/
def intsReckonsUptoCard : Claim7 := { stood := { row := intsReckonsUptoRow, standIns := [], harness := (true, "f03af82ede869da918f5d5b468edde05adcfc4986b59a0fa6065d07ad3c2d6a7"), looks := true }, kinds := [], alts := [], laidByText := true, laidKinds := [.data, .data, .data, .sentinel, .sentinel], laidTests := true, laidLooks := .later }
def IntsReckonsUptoCardSaid : Prop := Claim7.holds Tryd.pinned (.plain (OpenSpec.upto intsReckonsSpec)) intsReckonsUptoCard
end Rows
end Go.Proofs.YtjgccgjdonjlaaaDoor
