/-
  DERIVED. GIVEN WITH THE SEED: THE CARDS: each row of YtkanfffbdegfoaaDoorRows.lean that lists a variable, with what it lists TIED to the program's text (the seventh form; the later family's looks); each row that meets fmt, with fmt's text TOLD by the authors' own Lean function (tested against real Go, not proved from fmt's source: count such statements apart). THE CARD IS WHAT COUNTS. Prove the row's statement (the work); the ties are given (YtkanfffbdegfoaaDoorTie.lean); close each card by the builder's one call (the guide's Derived/Test/ToyasCard.lean, 'card_holds'). Laid BY PROGRAM, IN A SANDBOX (cutbox-door.mjs). By AI agents, Wed Nov 11 2026. No macro, syntax, notation, axiom, sorry.
-/
import Derived.Test.YtkanfffbdegfoaaDoorRows
import GoSem.ClaimSeven
namespace Go.Proofs.YtkanfffbdegfoaaDoor
namespace Rows

/-- THE TIED CARD OF 'fathomlaw13.LabelTurned'. -/
def labelTurnedCard : Claim7 := { stood := { row := labelTurnedRow, standIns := [], harness := (true, "397b9c1590d93691f6f55fc9196813846483be73dc9e389649323ace8538da42"), looks := false }, kinds := [], alts := [], laidByText := true, laidKinds := [.data, .pinned], laidTests := true, laidLooks := .later }
def LabelTurnedCardSaid : Prop := Claim7.holds Tryd.pinned (.plain (OpenSpec.ofChange labelTurnedSpec)) labelTurnedCard

/-- THE TIED CARD OF 'fathomlaw13.LabelQuoted'. -/
def labelQuotedCard : Claim7 := { stood := { row := labelQuotedRow, standIns := [], harness := (true, "397b9c1590d93691f6f55fc9196813846483be73dc9e389649323ace8538da42"), looks := false }, kinds := [], alts := [], laidByText := true, laidKinds := [.data, .pinned], laidTests := true, laidLooks := .later }
def LabelQuotedCardSaid : Prop := Claim7.holds Tryd.pinned (.plain (OpenSpec.ofChange labelQuotedSpec)) labelQuotedCard

/-- THE TIED CARD OF 'fathomlaw13.LabelBlanks'. -/
def labelBlanksCard : Claim7 := { stood := { row := labelBlanksRow, standIns := [], harness := (true, "397b9c1590d93691f6f55fc9196813846483be73dc9e389649323ace8538da42"), looks := false }, kinds := [], alts := [], laidByText := true, laidKinds := [.data, .pinned], laidTests := true, laidLooks := .later }
def LabelBlanksCardSaid : Prop := Claim7.holds Tryd.pinned (.plain (OpenSpec.ofChange labelBlanksSpec)) labelBlanksCard

/-- THE TIED CARD OF 'fathomlaw13.LabelEscapes'. -/
def labelEscapesCard : Claim7 := { stood := { row := labelEscapesRow, standIns := [], harness := (true, "397b9c1590d93691f6f55fc9196813846483be73dc9e389649323ace8538da42"), looks := false }, kinds := [], alts := [], laidByText := true, laidKinds := [.data, .pinned], laidTests := true, laidLooks := .later }
def LabelEscapesCardSaid : Prop := Claim7.holds Tryd.pinned (.plain (OpenSpec.ofChange labelEscapesSpec)) labelEscapesCard

/-- THE TIED CARD OF 'fathomlaw13.LabelAlike'. -/
def labelAlikeCard : Claim7 := { stood := { row := labelAlikeRow, standIns := [], harness := (true, "397b9c1590d93691f6f55fc9196813846483be73dc9e389649323ace8538da42"), looks := false }, kinds := [], alts := [], laidByText := true, laidKinds := [.data, .pinned], laidTests := true, laidLooks := .later }
def LabelAlikeCardSaid : Prop := Claim7.holds Tryd.pinned (.plain (OpenSpec.ofChange labelAlikeSpec)) labelAlikeCard

/-- THE TIED CARD OF 'fathomlaw13.LabelLimits'. -/
def labelLimitsCard : Claim7 := { stood := { row := labelLimitsRow, standIns := [], harness := (true, "397b9c1590d93691f6f55fc9196813846483be73dc9e389649323ace8538da42"), looks := false }, kinds := [], alts := [], laidByText := true, laidKinds := [.data, .pinned], laidTests := true, laidLooks := .later }
def LabelLimitsCardSaid : Prop := Claim7.holds Tryd.pinned (.plain (OpenSpec.ofChange labelLimitsSpec)) labelLimitsCard

/-- THE SECOND FORM's CARD OF 'fathomlaw13.LabelTurned'. -/
def labelTurnedUptoCard : Claim7 := { stood := { row := labelTurnedUptoRow, standIns := [], harness := (true, "397b9c1590d93691f6f55fc9196813846483be73dc9e389649323ace8538da42"), looks := false }, kinds := [], alts := [], laidByText := true, laidKinds := [.data, .pinned], laidTests := true, laidLooks := .later }
def LabelTurnedUptoCardSaid : Prop := Claim7.holds Tryd.pinned (.plain (OpenSpec.upto labelTurnedSpec)) labelTurnedUptoCard

/-- THE SECOND FORM's CARD OF 'fathomlaw13.LabelQuoted'. -/
def labelQuotedUptoCard : Claim7 := { stood := { row := labelQuotedUptoRow, standIns := [], harness := (true, "397b9c1590d93691f6f55fc9196813846483be73dc9e389649323ace8538da42"), looks := false }, kinds := [], alts := [], laidByText := true, laidKinds := [.data, .pinned], laidTests := true, laidLooks := .later }
def LabelQuotedUptoCardSaid : Prop := Claim7.holds Tryd.pinned (.plain (OpenSpec.upto labelQuotedSpec)) labelQuotedUptoCard

/-- THE SECOND FORM's CARD OF 'fathomlaw13.LabelBlanks'. -/
def labelBlanksUptoCard : Claim7 := { stood := { row := labelBlanksUptoRow, standIns := [], harness := (true, "397b9c1590d93691f6f55fc9196813846483be73dc9e389649323ace8538da42"), looks := false }, kinds := [], alts := [], laidByText := true, laidKinds := [.data, .pinned], laidTests := true, laidLooks := .later }
def LabelBlanksUptoCardSaid : Prop := Claim7.holds Tryd.pinned (.plain (OpenSpec.upto labelBlanksSpec)) labelBlanksUptoCard

/-- THE SECOND FORM's CARD OF 'fathomlaw13.LabelEscapes'. -/
def labelEscapesUptoCard : Claim7 := { stood := { row := labelEscapesUptoRow, standIns := [], harness := (true, "397b9c1590d93691f6f55fc9196813846483be73dc9e389649323ace8538da42"), looks := false }, kinds := [], alts := [], laidByText := true, laidKinds := [.data, .pinned], laidTests := true, laidLooks := .later }
def LabelEscapesUptoCardSaid : Prop := Claim7.holds Tryd.pinned (.plain (OpenSpec.upto labelEscapesSpec)) labelEscapesUptoCard

/-- THE SECOND FORM's CARD OF 'fathomlaw13.LabelAlike'. -/
def labelAlikeUptoCard : Claim7 := { stood := { row := labelAlikeUptoRow, standIns := [], harness := (true, "397b9c1590d93691f6f55fc9196813846483be73dc9e389649323ace8538da42"), looks := false }, kinds := [], alts := [], laidByText := true, laidKinds := [.data, .pinned], laidTests := true, laidLooks := .later }
def LabelAlikeUptoCardSaid : Prop := Claim7.holds Tryd.pinned (.plain (OpenSpec.upto labelAlikeSpec)) labelAlikeUptoCard

/-- THE SECOND FORM's CARD OF 'fathomlaw13.LabelLimits'. -/
def labelLimitsUptoCard : Claim7 := { stood := { row := labelLimitsUptoRow, standIns := [], harness := (true, "397b9c1590d93691f6f55fc9196813846483be73dc9e389649323ace8538da42"), looks := false }, kinds := [], alts := [], laidByText := true, laidKinds := [.data, .pinned], laidTests := true, laidLooks := .later }
def LabelLimitsUptoCardSaid : Prop := Claim7.holds Tryd.pinned (.plain (OpenSpec.upto labelLimitsSpec)) labelLimitsUptoCard
end Rows
end Go.Proofs.YtkanfffbdegfoaaDoor
