/-
  DERIVED. GIVEN WITH THE SEED: THE CARDS: each row of YtlhmjmfcngegnaaDoorRows.lean that lists a variable, with what it lists TIED to the program's text (the seventh form; the later family's looks); each row that meets fmt, with fmt's text TOLD by the authors' own Lean function (tested against real Go, not proved from fmt's source: count such statements apart). THE CARD IS WHAT COUNTS. Prove the row's statement (the work); the ties are given (YtlhmjmfcngegnaaDoorTie.lean); close each card by the builder's one call (the guide's Derived/Test/ToyasCard.lean, 'card_holds'). Laid BY PROGRAM, IN A SANDBOX (cutbox-door.mjs). By AI agents, Wed Nov 11 2026. No macro, syntax, notation, axiom, sorry.
-/
import Derived.Test.YtlhmjmfcngegnaaDoorRows
import GoSem.ClaimSeven
namespace Go.Proofs.YtlhmjmfcngegnaaDoor
namespace Rows

/-- THE TIED CARD OF 'foundrylaw01.FloatsOrders'. -/
def floatsOrdersCard : Claim7 := { stood := { row := floatsOrdersRow, standIns := [], harness := (true, "5b5cd358c799091d4e9a4e52a39a06ca6f50a185e9d9d4ba53bc943bbbbcd442"), looks := false }, kinds := [], alts := [], laidByText := true, laidKinds := [.data, .data, .data, .data, .pinned, .pinned], laidTests := true, laidLooks := .later }
def FloatsOrdersCardSaid : Prop := Claim7.holds Tryd.pinned (.plain (OpenSpec.ofChange floatsOrdersSpec)) floatsOrdersCard

/-- THE TIED CARD OF 'foundrylaw01.FloatsSums'. -/
def floatsSumsCard : Claim7 := { stood := { row := floatsSumsRow, standIns := [], harness := (true, "5b5cd358c799091d4e9a4e52a39a06ca6f50a185e9d9d4ba53bc943bbbbcd442"), looks := false }, kinds := [], alts := [], laidByText := true, laidKinds := [.data, .data, .data, .data, .pinned, .pinned], laidTests := true, laidLooks := .later }
def FloatsSumsCardSaid : Prop := Claim7.holds Tryd.pinned (.plain (OpenSpec.ofChange floatsSumsSpec)) floatsSumsCard

/-- THE TIED CARD OF 'foundrylaw01.FloatsLaws'. -/
def floatsLawsCard : Claim7 := { stood := { row := floatsLawsRow, standIns := [], harness := (true, "5b5cd358c799091d4e9a4e52a39a06ca6f50a185e9d9d4ba53bc943bbbbcd442"), looks := false }, kinds := [], alts := [], laidByText := true, laidKinds := [.data, .data, .data, .data, .pinned, .pinned], laidTests := true, laidLooks := .later }
def FloatsLawsCardSaid : Prop := Claim7.holds Tryd.pinned (.plain (OpenSpec.ofChange floatsLawsSpec)) floatsLawsCard

/-- THE TIED CARD OF 'foundrylaw01.FloatsBetween'. -/
def floatsBetweenCard : Claim7 := { stood := { row := floatsBetweenRow, standIns := [], harness := (true, "5b5cd358c799091d4e9a4e52a39a06ca6f50a185e9d9d4ba53bc943bbbbcd442"), looks := false }, kinds := [], alts := [], laidByText := true, laidKinds := [.data, .data, .data, .data, .pinned, .pinned], laidTests := true, laidLooks := .later }
def FloatsBetweenCardSaid : Prop := Claim7.holds Tryd.pinned (.plain (OpenSpec.ofChange floatsBetweenSpec)) floatsBetweenCard

/-- THE TIED CARD OF 'foundrylaw01.FloatsMeasure'. -/
def floatsMeasureCard : Claim7 := { stood := { row := floatsMeasureRow, standIns := [], harness := (true, "5b5cd358c799091d4e9a4e52a39a06ca6f50a185e9d9d4ba53bc943bbbbcd442"), looks := false }, kinds := [], alts := [], laidByText := true, laidKinds := [.data, .data, .data, .data, .pinned, .pinned], laidTests := true, laidLooks := .later }
def FloatsMeasureCardSaid : Prop := Claim7.holds Tryd.pinned (.plain (OpenSpec.ofChange floatsMeasureSpec)) floatsMeasureCard

/-- THE TIED CARD OF 'foundrylaw01.FloatsInts'. -/
def floatsIntsCard : Claim7 := { stood := { row := floatsIntsRow, standIns := [], harness := (true, "5b5cd358c799091d4e9a4e52a39a06ca6f50a185e9d9d4ba53bc943bbbbcd442"), looks := false }, kinds := [], alts := [], laidByText := true, laidKinds := [.data, .data, .data, .data, .pinned, .pinned], laidTests := true, laidLooks := .later }
def FloatsIntsCardSaid : Prop := Claim7.holds Tryd.pinned (.plain (OpenSpec.ofChange floatsIntsSpec)) floatsIntsCard

/-- THE TIED CARD OF 'foundrylaw01.FloatsParts'. -/
def floatsPartsCard : Claim7 := { stood := { row := floatsPartsRow, standIns := [], harness := (true, "5b5cd358c799091d4e9a4e52a39a06ca6f50a185e9d9d4ba53bc943bbbbcd442"), looks := false }, kinds := [], alts := [], laidByText := true, laidKinds := [.data, .data, .data, .data, .pinned, .pinned], laidTests := true, laidLooks := .later }
def FloatsPartsCardSaid : Prop := Claim7.holds Tryd.pinned (.plain (OpenSpec.ofChange floatsPartsSpec)) floatsPartsCard

/-- THE SECOND FORM's CARD OF 'foundrylaw01.FloatsOrders'. -/
def floatsOrdersUptoCard : Claim7 := { stood := { row := floatsOrdersUptoRow, standIns := [], harness := (true, "5b5cd358c799091d4e9a4e52a39a06ca6f50a185e9d9d4ba53bc943bbbbcd442"), looks := false }, kinds := [], alts := [], laidByText := true, laidKinds := [.data, .data, .data, .data, .pinned, .pinned], laidTests := true, laidLooks := .later }
def FloatsOrdersUptoCardSaid : Prop := Claim7.holds Tryd.pinned (.plain (OpenSpec.upto floatsOrdersSpec)) floatsOrdersUptoCard

/-- THE SECOND FORM's CARD OF 'foundrylaw01.FloatsSums'. -/
def floatsSumsUptoCard : Claim7 := { stood := { row := floatsSumsUptoRow, standIns := [], harness := (true, "5b5cd358c799091d4e9a4e52a39a06ca6f50a185e9d9d4ba53bc943bbbbcd442"), looks := false }, kinds := [], alts := [], laidByText := true, laidKinds := [.data, .data, .data, .data, .pinned, .pinned], laidTests := true, laidLooks := .later }
def FloatsSumsUptoCardSaid : Prop := Claim7.holds Tryd.pinned (.plain (OpenSpec.upto floatsSumsSpec)) floatsSumsUptoCard

/-- THE SECOND FORM's CARD OF 'foundrylaw01.FloatsLaws'. -/
def floatsLawsUptoCard : Claim7 := { stood := { row := floatsLawsUptoRow, standIns := [], harness := (true, "5b5cd358c799091d4e9a4e52a39a06ca6f50a185e9d9d4ba53bc943bbbbcd442"), looks := false }, kinds := [], alts := [], laidByText := true, laidKinds := [.data, .data, .data, .data, .pinned, .pinned], laidTests := true, laidLooks := .later }
def FloatsLawsUptoCardSaid : Prop := Claim7.holds Tryd.pinned (.plain (OpenSpec.upto floatsLawsSpec)) floatsLawsUptoCard

/-- THE SECOND FORM's CARD OF 'foundrylaw01.FloatsBetween'. -/
def floatsBetweenUptoCard : Claim7 := { stood := { row := floatsBetweenUptoRow, standIns := [], harness := (true, "5b5cd358c799091d4e9a4e52a39a06ca6f50a185e9d9d4ba53bc943bbbbcd442"), looks := false }, kinds := [], alts := [], laidByText := true, laidKinds := [.data, .data, .data, .data, .pinned, .pinned], laidTests := true, laidLooks := .later }
def FloatsBetweenUptoCardSaid : Prop := Claim7.holds Tryd.pinned (.plain (OpenSpec.upto floatsBetweenSpec)) floatsBetweenUptoCard

/-- THE SECOND FORM's CARD OF 'foundrylaw01.FloatsMeasure'. -/
def floatsMeasureUptoCard : Claim7 := { stood := { row := floatsMeasureUptoRow, standIns := [], harness := (true, "5b5cd358c799091d4e9a4e52a39a06ca6f50a185e9d9d4ba53bc943bbbbcd442"), looks := false }, kinds := [], alts := [], laidByText := true, laidKinds := [.data, .data, .data, .data, .pinned, .pinned], laidTests := true, laidLooks := .later }
def FloatsMeasureUptoCardSaid : Prop := Claim7.holds Tryd.pinned (.plain (OpenSpec.upto floatsMeasureSpec)) floatsMeasureUptoCard

/-- THE SECOND FORM's CARD OF 'foundrylaw01.FloatsInts'. -/
def floatsIntsUptoCard : Claim7 := { stood := { row := floatsIntsUptoRow, standIns := [], harness := (true, "5b5cd358c799091d4e9a4e52a39a06ca6f50a185e9d9d4ba53bc943bbbbcd442"), looks := false }, kinds := [], alts := [], laidByText := true, laidKinds := [.data, .data, .data, .data, .pinned, .pinned], laidTests := true, laidLooks := .later }
def FloatsIntsUptoCardSaid : Prop := Claim7.holds Tryd.pinned (.plain (OpenSpec.upto floatsIntsSpec)) floatsIntsUptoCard

/-- THE SECOND FORM's CARD OF 'foundrylaw01.FloatsParts'. -/
def floatsPartsUptoCard : Claim7 := { stood := { row := floatsPartsUptoRow, standIns := [], harness := (true, "5b5cd358c799091d4e9a4e52a39a06ca6f50a185e9d9d4ba53bc943bbbbcd442"), looks := false }, kinds := [], alts := [], laidByText := true, laidKinds := [.data, .data, .data, .data, .pinned, .pinned], laidTests := true, laidLooks := .later }
def FloatsPartsUptoCardSaid : Prop := Claim7.holds Tryd.pinned (.plain (OpenSpec.upto floatsPartsSpec)) floatsPartsUptoCard
end Rows
end Go.Proofs.YtlhmjmfcngegnaaDoor
