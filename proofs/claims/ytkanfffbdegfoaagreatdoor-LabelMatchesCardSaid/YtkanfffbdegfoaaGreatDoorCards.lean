/-
  DERIVED. GIVEN WITH THE SEED: THE CARDS: each row of YtkanfffbdegfoaaGreatDoorRows.lean that lists a variable, with what it lists TIED to the program's text (the seventh form; the later family's looks); each row that meets fmt, with fmt's text TOLD by the authors' own Lean function (tested against real Go, not proved from fmt's source: count such statements apart). THE CARD IS WHAT COUNTS. Prove the row's statement (the work); the ties are given (YtkanfffbdegfoaaGreatDoorTie.lean); close each card by the builder's one call (the guide's Derived/Test/ToyasCard.lean, 'card_holds'). Laid BY PROGRAM, IN A SANDBOX (cutbox-door.mjs). By AI agents, Wed Nov 11 2026. No macro, syntax, notation, axiom, sorry.
-/
import Derived.Test.YtkanfffbdegfoaaGreatDoorRows
import GoSem.ClaimSeven
namespace Go.Proofs.YtkanfffbdegfoaaGreatDoor
namespace Rows

/-- THE TIED CARD OF 'fathomlaw13.LabelTexts'. -/
def labelTextsCard : Claim7 := { stood := { row := labelTextsRow, standIns := [], harness := (true, "7488dc4e38a8bbf7ddd41e5f55a6975c1be803ab3624945539218698b994caca"), looks := true }, kinds := [], alts := [], laidByText := true, laidKinds := [.data, .pinned], laidTests := true, laidLooks := .later }
def LabelTextsCardSaid : Prop := Claim7.holds Tryz.pinned (.plain (OpenSpec.ofChange labelTextsSpec)) labelTextsCard

/-- THE TIED CARD OF 'fathomlaw13.LabelSets'. -/
def labelSetsCard : Claim7 := { stood := { row := labelSetsRow, standIns := [], harness := (true, "7488dc4e38a8bbf7ddd41e5f55a6975c1be803ab3624945539218698b994caca"), looks := true }, kinds := [], alts := [], laidByText := true, laidKinds := [.data, .pinned], laidTests := true, laidLooks := .later }
def LabelSetsCardSaid : Prop := Claim7.holds Tryz.pinned (.plain (OpenSpec.ofChange labelSetsSpec)) labelSetsCard

/-- THE TIED CARD OF 'fathomlaw13.LabelMatches'. -/
def labelMatchesCard : Claim7 := { stood := { row := labelMatchesRow, standIns := [], harness := (true, "7488dc4e38a8bbf7ddd41e5f55a6975c1be803ab3624945539218698b994caca"), looks := true }, kinds := [], alts := [], laidByText := true, laidKinds := [.data, .pinned], laidTests := true, laidLooks := .later }
def LabelMatchesCardSaid : Prop := Claim7.holds Tryz.pinned (.plain (OpenSpec.ofChange labelMatchesSpec)) labelMatchesCard

/-- THE TIED CARD OF 'fathomlaw13.LabelKeys'. -/
def labelKeysCard : Claim7 := { stood := { row := labelKeysRow, standIns := [], harness := (true, "7488dc4e38a8bbf7ddd41e5f55a6975c1be803ab3624945539218698b994caca"), looks := true }, kinds := [], alts := [], laidByText := true, laidKinds := [.data, .pinned], laidTests := true, laidLooks := .later }
def LabelKeysCardSaid : Prop := Claim7.holds Tryz.pinned (.plain (OpenSpec.ofChange labelKeysSpec)) labelKeysCard

/-- THE TIED CARD OF 'fathomlaw13.LabelKeyed'. -/
def labelKeyedCard : Claim7 := { stood := { row := labelKeyedRow, standIns := [], harness := (true, "7488dc4e38a8bbf7ddd41e5f55a6975c1be803ab3624945539218698b994caca"), looks := true }, kinds := [], alts := [], laidByText := true, laidKinds := [.data, .pinned], laidTests := true, laidLooks := .later }
def LabelKeyedCardSaid : Prop := Claim7.holds Tryz.pinned (.plain (OpenSpec.ofChange labelKeyedSpec)) labelKeyedCard

/-- THE TIED CARD OF 'fathomlaw13.LabelOneForm'. -/
def labelOneFormCard : Claim7 := { stood := { row := labelOneFormRow, standIns := [], harness := (true, "7488dc4e38a8bbf7ddd41e5f55a6975c1be803ab3624945539218698b994caca"), looks := true }, kinds := [], alts := [], laidByText := true, laidKinds := [.data, .pinned], laidTests := true, laidLooks := .later }
def LabelOneFormCardSaid : Prop := Claim7.holds Tryz.pinned (.plain (OpenSpec.ofChange labelOneFormSpec)) labelOneFormCard

/-- THE SECOND FORM's CARD OF 'fathomlaw13.LabelTexts'. -/
def labelTextsUptoCard : Claim7 := { stood := { row := labelTextsUptoRow, standIns := [], harness := (true, "7488dc4e38a8bbf7ddd41e5f55a6975c1be803ab3624945539218698b994caca"), looks := true }, kinds := [], alts := [], laidByText := true, laidKinds := [.data, .pinned], laidTests := true, laidLooks := .later }
def LabelTextsUptoCardSaid : Prop := Claim7.holds Tryz.pinned (.plain (OpenSpec.upto labelTextsSpec)) labelTextsUptoCard

/-- THE SECOND FORM's CARD OF 'fathomlaw13.LabelSets'. -/
def labelSetsUptoCard : Claim7 := { stood := { row := labelSetsUptoRow, standIns := [], harness := (true, "7488dc4e38a8bbf7ddd41e5f55a6975c1be803ab3624945539218698b994caca"), looks := true }, kinds := [], alts := [], laidByText := true, laidKinds := [.data, .pinned], laidTests := true, laidLooks := .later }
def LabelSetsUptoCardSaid : Prop := Claim7.holds Tryz.pinned (.plain (OpenSpec.upto labelSetsSpec)) labelSetsUptoCard

/-- THE SECOND FORM's CARD OF 'fathomlaw13.LabelMatches'. -/
def labelMatchesUptoCard : Claim7 := { stood := { row := labelMatchesUptoRow, standIns := [], harness := (true, "7488dc4e38a8bbf7ddd41e5f55a6975c1be803ab3624945539218698b994caca"), looks := true }, kinds := [], alts := [], laidByText := true, laidKinds := [.data, .pinned], laidTests := true, laidLooks := .later }
def LabelMatchesUptoCardSaid : Prop := Claim7.holds Tryz.pinned (.plain (OpenSpec.upto labelMatchesSpec)) labelMatchesUptoCard

/-- THE SECOND FORM's CARD OF 'fathomlaw13.LabelKeys'. -/
def labelKeysUptoCard : Claim7 := { stood := { row := labelKeysUptoRow, standIns := [], harness := (true, "7488dc4e38a8bbf7ddd41e5f55a6975c1be803ab3624945539218698b994caca"), looks := true }, kinds := [], alts := [], laidByText := true, laidKinds := [.data, .pinned], laidTests := true, laidLooks := .later }
def LabelKeysUptoCardSaid : Prop := Claim7.holds Tryz.pinned (.plain (OpenSpec.upto labelKeysSpec)) labelKeysUptoCard

/-- THE SECOND FORM's CARD OF 'fathomlaw13.LabelKeyed'. -/
def labelKeyedUptoCard : Claim7 := { stood := { row := labelKeyedUptoRow, standIns := [], harness := (true, "7488dc4e38a8bbf7ddd41e5f55a6975c1be803ab3624945539218698b994caca"), looks := true }, kinds := [], alts := [], laidByText := true, laidKinds := [.data, .pinned], laidTests := true, laidLooks := .later }
def LabelKeyedUptoCardSaid : Prop := Claim7.holds Tryz.pinned (.plain (OpenSpec.upto labelKeyedSpec)) labelKeyedUptoCard

/-- THE SECOND FORM's CARD OF 'fathomlaw13.LabelOneForm'. -/
def labelOneFormUptoCard : Claim7 := { stood := { row := labelOneFormUptoRow, standIns := [], harness := (true, "7488dc4e38a8bbf7ddd41e5f55a6975c1be803ab3624945539218698b994caca"), looks := true }, kinds := [], alts := [], laidByText := true, laidKinds := [.data, .pinned], laidTests := true, laidLooks := .later }
def LabelOneFormUptoCardSaid : Prop := Claim7.holds Tryz.pinned (.plain (OpenSpec.upto labelOneFormSpec)) labelOneFormUptoCard
end Rows
end Go.Proofs.YtkanfffbdegfoaaGreatDoor
